/- Walks: package filter: Parse. Conditions: Laid; the text is shorter than 100 million bytes. Walks: package filter: Parse of words. Conditions: Laid; the text is shorter than 100 million bytes. Plain words: the chapter's fixed calls. Plain words on memory: == of two filters; rows loaded and stored. Conditions: none. -/
import Derived.Test.YtakgfbcmkhcdkaaGreatDoorTak
import Derived.Test.YtakgfbcmkhcdkaaGreatDoorMFText
import Derived.Laws.StructEq
namespace Go.Proofs.YtakgfbcmkhcdkaaGreatDoor
set_option linter.all false
open Go.ChangeShapes Go.WideShapes Go.RowKit
def zeroF : Flt := ⟨0, 0, 0, 0, 0, 0, 0, ⟨#[]⟩, 0, 0, 0, 0, 0, 0, 0, 0⟩
def foldT : Flt → List Str → Option Flt
  | f, [] => some f
  | f, x :: r => match takeS f x with | some f' => foldT f' r | none => none
theorem foldT_step {f : Flt} {l : List Str} {k : Nat} (hk : k < l.length) : foldT f (l.drop k) = (match takeS f l[k] with | some f' => foldT f' (l.drop (k + 1)) | none => none) := by
  rw [List.drop_eq_getElem_cons hk, foldT]
/-- The filter with a text, as Parse finds it. -/
def parseS (s : Str) : Option Flt := match (if s = anyW then some zeroF else foldT zeroF (splitOn 32 s)) with
  | some f => if textOf f = s then some f else none
  | none => none
def fltRet (o : Option Flt) : Value := match o with | some f => .tuple #[.agg f.cells, .int .i64 0] | none => .tuple #[.agg zeroF.cells, .int .i64 3]
theorem fltText_v (f : Flt) (w : World) (hl : Laid w) :
    Calls Tryz.prog 39 #[.agg f.cells] w fun e w' => e = .returned (.string (B (textOf f))) ∧ Below w.heap.size w w' := fltText_any f.zone f.who f.self f.types f.ntypes f.colors f.ncolors f.sub f.keys f.tap f.pk f.pn f.tk f.tn f.vk f.vn w hl
theorem results_row_tmp {P : Program} {fn : Func} {p q : Tmp} {ty : TypeId} (h : fn.results = #[.cell p ty, .tmp q]) (tmps : Array Value) (w : World) (g : Nat) (t : TypeId) (cs : Array Value) (fr : Nat × Nat) (d : TypeDesc)
    (hp : tmps.getD p undef = .pointer (some ⟨g, 0, none⟩)) (hg : w.heap[g]? = some (.cells cs t fr))
    (hu : P.underlying ty = some d) (hd : (match d with | .struct _ | .array _ _ => true | _ => false) = true) (hi : (P.info? ty).map (·.size) = some cs.size) :
    (results fn tmps).run P w = .ok (.tuple #[.agg cs, tmps.getD q undef]) w := by
  have hp' : tmps[p]?.getD undef = .pointer (some ⟨g, 0, none⟩) := by simpa using hp
  simp [results, h, hp', asAddr, run_loadVar_row w g t ty cs fr d hg hu hd hi]
theorem splitOn_mem (c : UInt8) : ∀ (s : Str), ∀ x ∈ splitOn c s, x.length ≤ s.length
  | [], x, h => by simp [splitOn] at h; subst h; simp
  | a :: r, x, h => by
    have ih := splitOn_mem c r
    unfold splitOn at h; split at h
    · simp at h; rcases h with rfl | h
      · simp
      · have := ih x h; simp; omega
    · split at h
      · rename_i hs; simp at h; subst h; simp
      · rename_i y z hs
        rw [hs] at ih
        simp at h; rcases h with rfl | h
        · have := ih y (by simp); simp; omega
        · have := ih x (by simp [h]); simp; omega
theorem Texts.at3 {w : World} {base c k : Nat} {A : Option Addr} {l : List Str} (h : Texts w base l (.slice A l.length c)) (hk : k < l.length) :
    ∃ g, A = some ⟨g, 0, none⟩ ∧ base ≤ g ∧ g < w.heap.size ∧ w.cell? ⟨g, k, none⟩ = some (.string (B l[k])) := by
  obtain ⟨g, hA, hb, hg, hc⟩ := own_at h hk
  exact ⟨g, hA, hb, hg, (hc k hk).trans (strCells_at hk)⟩
abbrev TF : Nat := 25
theorem zero_text : textOf zeroF = anyW := by decide +kernel
theorem row_set {w : World} {g t : Nat} {old cs : Array Value} (hg : w.heap[g]? = some (.cells old t (0, 0))) : (w.setRow g cs).heap[g]? = some (.cells cs t (0, 0)) := setRow_heap w g old cs t (0, 0) hg
theorem infoTF : (Tryz.prog.info? TF).map (·.size) = some 16 := by kernel_rfl
theorem cells_one (f : Flt) : f.cells.all (·.oneCell') = true := by simp [Flt.cells, Value.oneCell']
theorem below_setRow {B : Nat} {a w : World} (h : Below B a w) {g : Nat} (hg : B ≤ g) (cs : Array Value) : Below B a (w.setRow g cs) :=
  h.trans ⟨rfl, rfl, rfl, by simp [World.setRow], fun k hk => setRow_other w g k cs (by omega)⟩
theorem first_block {w w3 : World} {o o2 : Obj} (hb : Below ((w.alloc o).alloc o2).heap.size ((w.alloc o).alloc o2) w3) : w3.heap[w.heap.size]? = some o :=
  (hb.block _ (by simp; omega)).trans ((Below.heap_alloc _ _ _ (by simp)).trans (heap_alloc_new w o))
theorem second_block {w w3 : World} {o o2 : Obj} (hb : Below ((w.alloc o).alloc o2).heap.size ((w.alloc o).alloc o2) w3) : w3.heap[w.heap.size + 1]? = some o2 :=
  (hb.block _ (by simp)).trans (by have := heap_alloc_new (w.alloc o) o2; simpa using this)
theorem two_allocs {w w3 : World} {o o2 : Obj} (hb : Below ((w.alloc o).alloc o2).heap.size ((w.alloc o).alloc o2) w3) : Below w.heap.size w w3 :=
  below_all (((Below.refl _ _).alloc (Nat.le_refl _) _).alloc (by simp) _) hb (by simp; omega)
set_option maxRecDepth 100000 in
set_option maxHeartbeats 1000000 in
theorem fltParse_word (s : ByteArray) (w : World) (hl : Laid w) (hany : L s = anyW) :
    Calls Tryz.prog 137 #[.string s] w fun e w' => e = .returned (.tuple #[.agg zeroF.cells, .int .i64 0]) ∧ Below w.heap.size w w' := by
  have t0 : (s.toList == [97, 110, 121]) = true := toList_lit_yes hany
  have hl2 : Laid ((w.alloc (.cells zeroF.cells TF)).alloc (.cells zeroF.cells TR)) := hl.below (((Below.refl _ _).alloc (Nat.le_refl _) _).alloc (by simp) _)
  have ht := Lib.hid zero_text
  have t1 : (anyW == s.toList) = true := toList_yes hany.symm
  have t2 : (s.toList == anyW) = true := toList_lit_yes hany
  go_enter Tryz.func137, Tryz.ntmps137
  go_wp2_with (first | (go_at_call 39; refine (fltText_v zeroF _ hl2).mono ?_; rintro e w3 ⟨rfl, hb3⟩; rw [ht.out]; have hr3 := Lib.hid (first_block hb3); have hg3 := Lib.hid (second_block hb3)) | refine wpList_load_row rfl TF (.tmp 37) rfl (w.heap.size + 1) rfl TR zeroF.cells (0, 0) _ hg3 Tryz.underlying25 rfl infoTF ?_ | refine wpList_store_row rfl TF (.tmp 2) (.tmp 38) rfl w.heap.size zeroF.cells rfl rfl TF zeroF.cells hr3 infoTF rfl (cells_one _) ?_)
  exact bodyPost_ret (results_row_tmp rfl _ _ w.heap.size TF zeroF.cells (0, 0) _ rfl (row_set hr3) Tryz.underlying25 rfl infoTF) rfl ⟨rfl, below_setRow (two_allocs hb3) (Nat.le_refl _) _⟩
end Go.Proofs.YtakgfbcmkhcdkaaGreatDoor
namespace Go.Proofs.YtakgfbcmkhcdkaaGreatDoor
set_option linter.all false
open Go.ChangeShapes Go.WideShapes Go.RowKit
set_option maxRecDepth 100000 in
set_option maxHeartbeats 2000000 in
theorem fltParse_words (s : ByteArray) (w : World) (hl : Laid w) (hs : s.size < 100000000) (hany : ¬ L s = anyW) :
    Calls Tryz.prog 137 #[.string s] w fun e w' => e = .returned (fltRet (match foldT zeroF (splitOn 32 (L s)) with | some f => if textOf f = L s then some f else none | none => none)) ∧ Below w.heap.size w w' := by
  obtain ⟨R, hR⟩ : ∃ R, R = (match foldT zeroF (splitOn 32 (L s)) with | some f => if textOf f = L s then some f else none | none => none) := ⟨_, rfl⟩
  rw [← hR]
  have HR := Lib.hid hR; clear hR
  have t0 : (s.toList == [97, 110, 121]) = false := toList_lit_no hany
  have t2 : (!s.toList == [97, 110, 121]) = true := by rw [t0]; rfl
  clear hany
  have hlen := splitOn_len 32 (L s)
  have hmem : Hid (∀ x ∈ splitOn 32 (L s), x.length < 100000000) := fun x hx => by have := splitOn_mem 32 (L s) x hx; rw [size_l] at this; omega
  rw [size_l] at hlen
  have hl2 : Laid ((w.alloc (.cells zeroF.cells TF)).alloc (.cells zeroF.cells TR)) := hl.below (((Below.refl _ _).alloc (Nat.le_refl _) _).alloc (by simp) _)
  have hsp : s.size < 4294967281 := by omega
  go_enter Tryz.func137, Tryz.ntmps137
  go_wp2_with (go_at_call 134; refine (split_any _ _ ((w.alloc (.cells zeroF.cells TF)).alloc (.cells zeroF.cells TR)) hl2.shaped hsp).mono ?_; rintro e w3 ⟨A, c, rfl, ht, hb3⟩)
  have hr3 := Lib.hid (first_block hb3)
  have hg3 := second_block hb3
  have HRd : Rd w3 (w.heap.size + 1) (w.heap.size + 1) zeroF := ⟨hg3, Nat.le_refl _⟩
  have hB3 := two_allocs hb3
  have hLB : LB (w.heap.size + 1) w3 := ⟨w, hl, Nat.le_succ _, hB3⟩
  generalize splitOn 32 (L s) = ws at *
  have hbase : Hid (w.heap.size + 2 = ((w.alloc (.cells zeroF.cells TF)).alloc (.cells zeroF.cells TR)).heap.size) := by show _ = _; simp
  go_loopw [17] (fun i wr => ∃ k : Nat, ∃ f : Flt, k ≤ ws.length ∧ i = .int .i64 k ∧ Rd wr (w.heap.size + 1) (w.heap.size + 1) f ∧ Fr (w.heap.size + 1) (w.heap.size + 1) w3 wr ∧ Hid (foldT zeroF ws = foldT f (ws.drop k))) (fun i _ => ws.length - (intOf i).toNat)
  case atStart => exact ⟨0, zeroF, by omega, rfl, HRd, Fr.refl _ _ _, rfl⟩
  case round =>
    obtain ⟨k, f, hk, rfl, hrd, hfr, HF⟩ := hrel
    have hsz := hfr.bel.size
    have hLr := hLB.below hfr.bel
    have hrr : Hid (wr.heap[w.heap.size]? = some (.cells zeroF.cells TF (0, 0))) := (hfr.bel.block _ (by omega)).trans hr3.out
    by_cases hlt : k < ws.length
    · obtain ⟨g3, rfl, hge, hg3l, hcl⟩ := ht.at3 hlt
      have hcell : wr.cell? ⟨g3, k, none⟩ = some (.string (B ws[k])) := (World.cell?_of_block (w := w3) (a := ⟨g3, k, none⟩) (hfr.keep g3 hg3l (by have := hbase.out; omega))).trans hcl
      have hxs : (B ws[k]).size < 100000000 := by rw [B_size]; exact hmem.out _ (List.getElem_mem hlt)
      have HST := Lib.hid (foldT_step (f := f) hlt)
      clear hcl ht
      generalize ws[k] = x at *
      go_wp2_with fail
      refine (take_any (B x) f wr _ _ hrd hLr hxs).mono ?_
      rw [L_B]
      rintro e w4 ⟨hf4, ⟨f', hf, rfl, hw4⟩ | ⟨hf, rfl, f', hw4⟩⟩
      · have HN : Hid (foldT zeroF ws = foldT f' (ws.drop (k + 1))) := Lib.hid (by rw [HF.out, HST.out, hf])
        have hf5 := hfr.trans hf4
        clear hf HST HF hf4 hcell
        dsimp only
        go_wp2
        go_roundw
        case rel => exact ⟨k + 1, f', by omega, by go_num, hw4, hf5, HN⟩
        case measure => simp [intOf]; omega
      · have HN : Hid (R = none) := Lib.hid (by rw [HR.out, HF.out, HST.out, hf])
        have hf5 := hfr.trans hf4
        have hr4 : Hid (w4.heap[w.heap.size]? = some (.cells zeroF.cells TF (0, 0))) := (hf4.bel.block _ (by omega)).trans hrr.out
        clear hf HST HF hf4 hcell HR
        dsimp only
        go_wp2_with (refine wpList_store_row rfl TF (.tmp 2) (.tmp 25) rfl w.heap.size zeroF.cells rfl rfl TF zeroF.cells hr4 infoTF rfl (cells_one _) ?_)
        refine bodyPost_ret (results_row_tmp rfl _ _ w.heap.size TF zeroF.cells (0, 0) _ rfl (row_set hr4) Tryz.underlying25 rfl infoTF) rfl ⟨?_, below_setRow (hB3.trans (hf5.bel.mono (Nat.le_succ _))) (Nat.le_refl _) _⟩
        exact ret_val (by rw [HN.out]; rfl)
    · obtain rfl : k = ws.length := by omega
      have HE : Hid (foldT zeroF ws = some f) := Lib.hid (by rw [HF.out, List.drop_length]; rfl)
      have hgr := Lib.hid hrd.1
      have hLd := hLr.laid
      clear HF
      by_cases hT : textOf f = L s
      · have t3 := toList_yes hT
        have HN : Hid (R = some f) := Lib.hid (by rw [HR.out, HE.out]; exact if_pos hT)
        clear hT HR HE
        go_wp2_with (first | (go_at_call 39; refine (fltText_v f _ hLd).mono ?_; rintro e w4 ⟨rfl, hb4⟩; have hr4 := Lib.hid ((hb4.block w.heap.size (by have := hrd.lt; omega)).trans hrr.out); have hg4 := Lib.hid ((hb4.block _ hrd.lt).trans hgr.out)) | refine wpList_load_row rfl TF (.tmp 29) rfl (w.heap.size + 1) rfl TR f.cells (0, 0) _ hgr Tryz.underlying25 rfl infoTF ?_ | refine wpList_load_row rfl TF (.tmp 37) rfl (w.heap.size + 1) rfl TR f.cells (0, 0) _ hg4 Tryz.underlying25 rfl infoTF ?_ | refine wpList_store_row rfl TF (.tmp 2) (.tmp 38) rfl w.heap.size f.cells rfl rfl TF zeroF.cells hr4 infoTF rfl (cells_one _) ?_)
        refine bodyPost_ret (results_row_tmp rfl _ _ w.heap.size TF f.cells (0, 0) _ rfl (row_set hr4) Tryz.underlying25 rfl infoTF) rfl ⟨?_, below_setRow ((hB3.trans (hfr.bel.mono (Nat.le_succ _))).trans (hb4.mono (by have := hB3.size; omega))) (Nat.le_refl _) _⟩
        exact ret_val (by rw [HN.out]; rfl)
      · have t3 := toList_no hT
        have HN : Hid (R = none) := Lib.hid (by rw [HR.out, HE.out]; exact if_neg hT)
        clear hT HR HE
        go_wp2_with (first | (go_at_call 39; refine (fltText_v f _ hLd).mono ?_; rintro e w4 ⟨rfl, hb4⟩; have hr4 := Lib.hid ((hb4.block w.heap.size (by have := hrd.lt; omega)).trans hrr.out); have hg4 := Lib.hid ((hb4.block _ hrd.lt).trans hgr.out)) | refine wpList_load_row rfl TF (.tmp 29) rfl (w.heap.size + 1) rfl TR f.cells (0, 0) _ hgr Tryz.underlying25 rfl infoTF ?_ | refine wpList_store_row rfl TF (.tmp 2) (.tmp 34) rfl w.heap.size zeroF.cells rfl rfl TF zeroF.cells hr4 infoTF rfl (cells_one _) ?_)
        refine bodyPost_ret (results_row_tmp rfl _ _ w.heap.size TF zeroF.cells (0, 0) _ rfl (row_set hr4) Tryz.underlying25 rfl infoTF) rfl ⟨?_, below_setRow ((hB3.trans (hfr.bel.mono (Nat.le_succ _))).trans (hb4.mono (by have := hB3.size; omega))) (Nat.le_refl _) _⟩
        exact ret_val (by rw [HN.out]; rfl)
end Go.Proofs.YtakgfbcmkhcdkaaGreatDoor
namespace Go.Proofs.YtakgfbcmkhcdkaaGreatDoor
set_option linter.all false
open Go.ChangeShapes Go.WideShapes Go.RowKit
theorem fltParse_any (s : ByteArray) (w : World) (hl : Laid w) (hs : s.size < 100000000) :
    Calls Tryz.prog 137 #[.string s] w fun e w' => e = .returned (fltRet (parseS (L s))) ∧ Below w.heap.size w w' := by
  by_cases hany : L s = anyW
  · refine (fltParse_word s w hl hany).mono fun e w' ⟨he, hb⟩ => ⟨?_, hb⟩
    rw [he, parseS, if_pos hany]; simp only [hany, zero_text, if_true]; try rfl
  · refine (fltParse_words s w hl hs hany).mono fun e w' ⟨he, hb⟩ => ⟨?_, hb⟩
    rw [he, parseS, if_neg hany]; try rfl
def aliveW : Str := [121, 111, 117, 114, 115, 32, 111, 116, 104, 101, 114, 32, 99, 114, 101, 97, 116, 117, 114, 101, 32, 119, 105, 116, 104, 58, 102, 108, 121, 105, 110, 103, 32, 112, 111, 119, 101, 114, 62, 61, 51]
def aliveF : Flt := ⟨0, 1, 2, 1, 0, 0, 0, ⟨#[]⟩, 1, 0, 1, 3, 0, 0, 0, 0⟩
theorem itoa3 : Lib.itoa 3 = [51] := by
  unfold Lib.itoa; rw [if_neg (by decide)]; exact Lib.decDigits_one (by decide)
theorem a1 : splitOn 32 aliveW = [[121, 111, 117, 114, 115], [111, 116, 104, 101, 114], [99, 114, 101, 97, 116, 117, 114, 101], [119, 105, 116, 104, 58, 102, 108, 121, 105, 110, 103], [112, 111, 119, 101, 114, 62, 61, 51]] := by decide +kernel
theorem a2 : takeS zeroF [121, 111, 117, 114, 115] = some { zeroF with who := 1 } := by kernel_rfl
theorem a3 : takeS { zeroF with who := 1 } [111, 116, 104, 101, 114] = some { zeroF with who := 1, self := 2 } := by kernel_rfl
theorem a4 : takeS { zeroF with who := 1, self := 2 } [99, 114, 101, 97, 116, 117, 114, 101] = some { zeroF with who := 1, self := 2, types := 1 } := by kernel_rfl
theorem a5 : takeS { zeroF with who := 1, self := 2, types := 1 } [119, 105, 116, 104, 58, 102, 108, 121, 105, 110, 103] = some { zeroF with who := 1, self := 2, types := 1, keys := 1 } := by kernel_rfl
theorem a6 : takeS { zeroF with who := 1, self := 2, types := 1, keys := 1 } [112, 111, 119, 101, 114, 62, 61, 51] = some aliveF := by kernel_rfl
theorem a7 : textOf aliveF = aliveW := by kernel_rfl
theorem a8 : parseS aliveW = some aliveF := by kernel_rfl
theorem a9 : parseS anyW = some zeroF := by kernel_rfl
theorem a10 : parseS [99, 114, 101, 97, 116, 117, 114, 101, 32, 121, 111, 117, 114, 115] = none := by kernel_rfl
end Go.Proofs.YtakgfbcmkhcdkaaGreatDoor
namespace Go.Proofs.YtakgfbcmkhcdkaaGreatDoor
set_option linter.all false
open Go.ChangeShapes Go.WideShapes Go.RowKit
theorem row_cells {w : World} {g t : Nat} {cs : Array Value} {fr : Nat × Nat} (h : w.heap[g]? = some (.cells cs t fr)) (j : Nat) : w.cell? ⟨g, j, none⟩ = cs[j]? := cell_of_row w g j cs t fr h
theorem Laid.alloc {w : World} (h : Laid w) (o : Obj) : Laid (w.alloc o) := h.below ((Below.refl _ _).alloc (Nat.le_refl _) _)
theorem blk_new {w w2 : World} {o : Obj} (hb : Below (w.alloc o).heap.size (w.alloc o) w2) : w2.heap[w.heap.size]? = some o := (hb.block _ (by simp)).trans (heap_alloc_new w o)
theorem blk_old {w w2 : World} {o : Obj} {k : Nat} {p : Obj} (hb : Below (w.alloc o).heap.size (w.alloc o) w2) (h : w.heap[k]? = some p) : w2.heap[k]? = some p := by
  have hk : k < w.heap.size := (Array.getElem?_eq_some_iff.1 h).1
  exact (hb.block _ (by simp; omega)).trans ((Below.heap_alloc w o k hk).trans h)
theorem blk_lt {w : World} {k : Nat} {p : Obj} (h : w.heap[k]? = some p) : k < w.heap.size := (Array.getElem?_eq_some_iff.1 h).1
/-- Two filters, field for field. -/
def fltEq (f g : Flt) : Bool := f.zone == g.zone && (f.who == g.who && (f.self == g.self && (f.types == g.types && (f.ntypes == g.ntypes && (f.colors == g.colors && (f.ncolors == g.ncolors && (f.sub.toList == g.sub.toList && (f.keys == g.keys && (f.tap == g.tap && (f.pk == g.pk && (f.pn == g.pn && (f.tk == g.tk && (f.tn == g.tn && (f.vk == g.vk && (f.vn == g.vn)))))))))))))))
theorem toList_eq_iff (a b : ByteArray) : a.toList = b.toList ↔ a = b := by
  rw [L_toList, L_toList]; exact ⟨L_inj, fun h => by rw [h]⟩
theorem ite_and_res {p : Prop} [Decidable p] {b c : Bool} {X : Result Value} {w : World} (hb : b = true ↔ p) (h : X = .ok (.bool c) w) : (if p then X else .ok (.bool false) w) = .ok (.bool (b && c)) w := by
  by_cases hp : p
  · rw [if_pos hp, hb.2 hp, h]; rfl
  · rw [if_neg hp]; cases hbb : b
    · rfl
    · exact absurd (hb.1 hbb) hp
theorem fltEq_iff (f g : Flt) : fltEq f g = true ↔ f = g := by
  obtain ⟨zone, who, self, types, ntypes, colors, ncolors, sub, keys, tap, pk, pn, tk, tn, vk, vn⟩ := f
  obtain ⟨zone2, who2, self2, types2, ntypes2, colors2, ncolors2, sub2, keys2, tap2, pk2, pn2, tk2, tn2, vk2, vn2⟩ := g
  simp only [fltEq, Bool.and_eq_true, beq_iff_eq, toList_eq_iff, Flt.mk.injEq]
set_option maxRecDepth 100000 in
/-- The model's == of two filters. -/
theorem eq_flt (zone who self types ntypes colors ncolors : Int) (sub : ByteArray) (keys tap pk pn tk tn vk vn : Int) (zone2 who2 self2 types2 ntypes2 colors2 ncolors2 : Int) (sub2 : ByteArray) (keys2 tap2 pk2 pn2 tk2 tn2 vk2 vn2 : Int) (w : World) : (binOp .eql 25 (.agg #[.int .i64 zone, .int .i64 who, .int .i64 self, .int .i64 types, .int .i64 ntypes, .int .i64 colors, .int .i64 ncolors, .string sub, .int .i64 keys, .int .i64 tap, .int .i64 pk, .int .i64 pn, .int .i64 tk, .int .i64 tn, .int .i64 vk, .int .i64 vn]) (.agg #[.int .i64 zone2, .int .i64 who2, .int .i64 self2, .int .i64 types2, .int .i64 ntypes2, .int .i64 colors2, .int .i64 ncolors2, .string sub2, .int .i64 keys2, .int .i64 tap2, .int .i64 pk2, .int .i64 pn2, .int .i64 tk2, .int .i64 tn2, .int .i64 vk2, .int .i64 vn2])).run Tryz.prog w = .ok (.bool (fltEq ⟨zone, who, self, types, ntypes, colors, ncolors, sub, keys, tap, pk, pn, tk, tn, vk, vn⟩ ⟨zone2, who2, self2, types2, ntypes2, colors2, ncolors2, sub2, keys2, tap2, pk2, pn2, tk2, tn2, vk2, vn2⟩)) w := by
  rw [run_eql_struct, run_equalIn_agg w 9999 25 _ _ (by kernel_rfl) (by kernel_rfl)]
  simp [fltEq, go_sem, Tryz.underlying25, Tryz.underlying23, Tryz.underlying3, Tryz.underlying9]
  iterate 15 (refine ite_and_res (by simp) ?_)
  split
  · rename_i h; rw [h]; simp
  · rename_i h; rw [beq_eq_false_iff_ne.2 h]
theorem wpList_load_row_g {P : Program} {ops : Array Oper} {rest : List Oper} {o : Oper} {a : Act} {w : World} {Q : Exit → Act → World → Prop} (hw : Region.wanted o (yielded ops a.tmps) = true) (ty : TypeId) (x : Operand) (ho : o.op = .load ty x)
    (g : Nat) (hx : a.eval x = .pointer (some ⟨g, 0, none⟩)) (t : TypeId) (cs : Array Value) (fr : Nat × Nat) (d : TypeDesc) (hg : w.heap[g]? = some (.cells cs t fr))
    (hu : P.underlying ty = some d) (hd : (match d with | .struct _ | .array _ _ => true | _ => false) = true) (hi : (P.info? ty).map (·.size) = some cs.size)
    (h : wpList P ops Q rest (a.put o.dst (.agg cs)) w) : wpList P ops Q (o :: rest) a w := by
  unfold wpList
  rw [if_pos hw]
  exact .inl (wp_load_row ty x ho g hx t cs fr d hg hu hd hi h)
theorem blk_below2 {w w2 : World} {k : Nat} {p : Obj} (hb : Below w.heap.size w w2) (h : w.heap[k]? = some p) : w2.heap[k]? = some p := (hb.block k (Array.getElem?_eq_some_iff.1 h).1).trans h
theorem eq_v (f g : Flt) (w : World) : (binOp .eql TF (.agg f.cells) (.agg g.cells)).run Tryz.prog w = .ok (.bool (fltEq f g)) w :=
  eq_flt f.zone f.who f.self f.types f.ntypes f.colors f.ncolors f.sub f.keys f.tap f.pk f.pn f.tk f.tn f.vk f.vn g.zone g.who g.self g.types g.ntypes g.colors g.ncolors g.sub g.keys g.tap g.pk g.pn g.tk g.tn g.vk g.vn w
theorem neq_v (f g : Flt) (w : World) : (binOp .neq TF (.agg f.cells) (.agg g.cells)).run Tryz.prog w = .ok (.bool (!fltEq f g)) w := by
  have h := eq_v f g w
  rw [run_eql_struct] at h
  rw [run_neq_struct]
  generalize (Op.equalIn 10000 TF (.agg f.cells) (.agg g.cells)).run Tryz.prog w = r at *
  cases r <;> simp_all [Result.andThen]
theorem fltEq_refl (f : Flt) : fltEq f f = true := (fltEq_iff f f).2 rfl
/-- A block is made and a row is stored in it. -/
def stored (w : World) (t : Nat) (o cs : Array Value) : World := (w.alloc (.cells o t)).setRow w.heap.size cs
theorem stored_new (w : World) (t : Nat) (o cs : Array Value) : (stored w t o cs).heap[w.heap.size]? = some (.cells cs t (0, 0)) := by
  unfold stored; exact setRow_heap _ _ o cs t (0, 0) (heap_alloc_new w _)
theorem stored_below (w : World) (t : Nat) (o cs : Array Value) : Below w.heap.size w (stored w t o cs) := by
  unfold stored; exact below_setRow ((Below.refl _ _).alloc (Nat.le_refl _) _) (Nat.le_refl _) cs
theorem stored_old {w : World} {t k : Nat} {o cs : Array Value} {p : Obj} (h : w.heap[k]? = some p) : (stored w t o cs).heap[k]? = some p := blk_below2 (stored_below w t o cs) h
end Go.Proofs.YtakgfbcmkhcdkaaGreatDoor
