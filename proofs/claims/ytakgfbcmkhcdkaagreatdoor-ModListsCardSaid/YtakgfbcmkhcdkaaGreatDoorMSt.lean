/- Memory that a call owns, kept as one list of rows: boxes, loads, stores, calls, results. Conditions: none. Regions that draw their order, over a standing fact S: if every operation, taken in the text's order, leaves one value in every world that meets S, and keeps S, the order is of no account. Conditions: none. -/
import Derived.Test.YtakgfbcmkhcdkaaGreatDoorMGMem
import Derived.Test.YtakgfbcmkhcdkaaGreatDoorFil
import Derived.OrdersHeld
namespace Go.Proofs.YtakgfbcmkhcdkaaGreatDoor
set_option linter.all false
open Go.ChangeShapes Go.WideShapes Go.RowKit
abbrev Row := Nat × Array Value × Nat
/-- What a call knows of memory: what it was given (L), that nothing older than w0 has turned, its own blocks (number, cells, type). -/
structure St (L : World → Prop) (w0 : World) (rows : List Row) (w : World) : Prop where
  base : L w0
  keeps : ∀ w1 w2 : World, L w1 → Below w1.heap.size w1 w2 → L w2
  below : Below w0.heap.size w0 w
  has : ∀ x ∈ rows, w.heap[x.1]? = some (.cells x.2.1 x.2.2 (0, 0)) ∧ w0.heap.size ≤ x.1
  apart : (rows.map (·.1)).Nodup
inductive RowAt (g : Nat) (cs : Array Value) (T : Nat) : List Row → Prop
  | head {r} : RowAt g cs T ((g, cs, T) :: r)
  | tail {x r} : RowAt g cs T r → RowAt g cs T (x :: r)
inductive RowSet (g : Nat) (cs new : Array Value) (T : Nat) : List Row → List Row → Prop
  | head {r} : RowSet g cs new T ((g, cs, T) :: r) ((g, new, T) :: r)
  | tail {x r r'} : RowSet g cs new T r r' → RowSet g cs new T (x :: r) (x :: r')
theorem RowAt.mem {g cs T r} (h : RowAt g cs T r) : (g, cs, T) ∈ r := by
  induction h with
  | head => exact .head _
  | tail _ ih => exact .tail _ ih
theorem RowSet.mem {g cs new T r r'} (h : RowSet g cs new T r r') : (g, cs, T) ∈ r := by
  induction h with
  | head => exact .head _
  | tail _ ih => exact .tail _ ih
theorem RowSet.keys {g cs new T r r'} (h : RowSet g cs new T r r') : r'.map (·.1) = r.map (·.1) := by
  induction h with
  | head => rfl
  | tail _ ih => simp [ih]
theorem RowSet.cases {g cs new T r r'} (h : RowSet g cs new T r r') (hn : (r.map (·.1)).Nodup) : ∀ x ∈ r', x = (g, new, T) ∨ (x ∈ r ∧ x.1 ≠ g) := by
  induction h with
  | @head r =>
    intro x hx
    rcases List.mem_cons.1 hx with rfl | hx
    · exact .inl rfl
    · refine .inr ⟨.tail _ hx, ?_⟩
      intro e
      simp only [List.map_cons, List.nodup_cons] at hn
      exact hn.1 (by rw [← e]; exact List.mem_map.2 ⟨x, hx, rfl⟩)
  | @tail y r r' hs ih =>
    intro x hx
    simp only [List.map_cons, List.nodup_cons] at hn
    rcases List.mem_cons.1 hx with rfl | hx
    · refine .inr ⟨.head _, ?_⟩
      intro e
      exact hn.1 (by rw [e]; exact List.mem_map.2 ⟨_, hs.mem, rfl⟩)
    · rcases ih hn.2 x hx with h | ⟨h1, h2⟩
      · exact .inl h
      · exact .inr ⟨.tail _ h1, h2⟩
section
variable {L : World → Prop} {w0 w : World} {rows : List Row}
theorem St.start (hl : L w) (hk : ∀ w1 w2 : World, L w1 → Below w1.heap.size w1 w2 → L w2) : St L w [] w := ⟨hl, hk, Below.refl _ _, by simp, by simp⟩
theorem St.laid (h : St L w0 rows w) : L w := h.keeps _ _ h.base h.below
theorem St.row (h : St L w0 rows w) {g cs T} (m : RowAt g cs T rows) : w.heap[g]? = some (.cells cs T (0, 0)) := (h.has _ m.mem).1
theorem St.mono (h : St L w0 rows w) {w' : World} (hb : Below w.heap.size w w') : St L w0 rows w' :=
  ⟨h.base, h.keeps, below_two h.below hb, fun x hx => ⟨blk_below2 hb (h.has x hx).1, (h.has x hx).2⟩, h.apart⟩
theorem St.drew (h : St L w0 rows w) : St L w0 rows w.drew := h.mono (Below.refl _ _).drew
theorem St.alloc (h : St L w0 rows w) (cs : Array Value) (T : Nat) : St L w0 ((w.heap.size, cs, T) :: rows) (w.alloc (.cells cs T)) := by
  have h' := h.mono ((Below.refl _ w).alloc (Nat.le_refl _) (.cells cs T))
  refine ⟨h'.base, h'.keeps, h'.below, ?_, ?_⟩
  · intro x hx
    rcases List.mem_cons.1 hx with rfl | hx
    · exact ⟨heap_alloc_new w _, h.below.size⟩
    · exact h'.has x hx
  · simp only [List.map_cons, List.nodup_cons]
    refine ⟨?_, h.apart⟩
    intro hm
    obtain ⟨x, hx, e⟩ := List.mem_map.1 hm
    have := (Array.getElem?_eq_some_iff.1 (h.has x hx).1).1
    omega
theorem St.set (h : St L w0 rows w) {g cs new T rows'} (m : RowSet g cs new T rows rows') : St L w0 rows' (w.setRow g new) := by
  obtain ⟨hg, ho⟩ := h.has _ m.mem
  refine ⟨h.base, h.keeps, below_setRow h.below ho new, ?_, by rw [m.keys]; exact h.apart⟩
  intro x hx
  rcases m.cases h.apart x hx with rfl | ⟨h1, h2⟩
  · exact ⟨row_set hg, ho⟩
  · exact ⟨(setRow_other w g x.1 new h2).trans (h.has x h1).1, (h.has x h1).2⟩
theorem St.call (h : St L w0 rows w) {k : Nat} {args : Array Value} {v : Value} (hc : L w → Calls Tryz.prog k args w fun e w' => e = .returned v ∧ Below w.heap.size w w') : Calls Tryz.prog k args w fun e w' => e = .returned v ∧ St L w0 rows w' :=
  (hc h.laid).mono fun _ _ ⟨he, hb⟩ => ⟨he, h.mono hb⟩
theorem St.still (h : St L w0 rows w) {k : Nat} {args : Array Value} {v : Value} (hc : L w → Calls Tryz.prog k args w fun e w' => e = .returned v ∧ w = w') : Calls Tryz.prog k args w fun e w' => e = .returned v ∧ St L w0 rows w' :=
  (hc h.laid).mono fun _ _ ⟨he, hb⟩ => ⟨he, hb ▸ h⟩
theorem St.callE (h : St L w0 rows w) {k : Nat} {args : Array Value} {v v' : Value} (hc : L w → Calls Tryz.prog k args w fun e w' => e = .returned v ∧ Below w.heap.size w w') (hv : v = v') : Calls Tryz.prog k args w fun e w' => e = .returned v' ∧ St L w0 rows w' := hv ▸ h.call hc
theorem St.stillE (h : St L w0 rows w) {k : Nat} {args : Array Value} {v v' : Value} (hc : L w → Calls Tryz.prog k args w fun e w' => e = .returned v ∧ w = w') (hv : v = v') : Calls Tryz.prog k args w fun e w' => e = .returned v' ∧ St L w0 rows w' := hv ▸ h.still hc
variable {ops : Array Oper} {rest : List Oper} {o : Oper} {a : Act} {Q : Exit → Act → World → Prop}
/-- A guard that is not decided: both ways. -/
theorem wpList_ask {b : Bool} (j : Nat) (want : Bool) (hg : o.guard = some (j, want)) (hy : yielded ops a.tmps j = some b)
    (h1 : b = true → wpList Tryz.prog ops Q (o :: rest) a w) (h2 : b = false → wpList Tryz.prog ops Q (o :: rest) a w) : wpList Tryz.prog ops Q (o :: rest) a w := by
  cases b
  · exact h2 rfl
  · exact h1 rfl
theorem wpList_here (h : wpList Tryz.prog ops Q (o :: rest) a w) : wpList Tryz.prog ops Q (o :: rest) a w := h
variable {dst : Option Tmp} {ty : TypeId} {pos : String} {af : Array Edge} {gd : Option (Nat × Bool)}
theorem at_box {T : Nat} {x : Operand} (h : wpList Tryz.prog ops Q ((⟨dst, .box T x, ty, pos, af, gd⟩ : Oper) :: rest) a w) : wpList Tryz.prog ops Q ((⟨dst, .box T x, ty, pos, af, gd⟩ : Oper) :: rest) a w := h
theorem at_alloc {T : Nat} (h : wpList Tryz.prog ops Q ((⟨dst, .alloc T, ty, pos, af, gd⟩ : Oper) :: rest) a w) : wpList Tryz.prog ops Q ((⟨dst, .alloc T, ty, pos, af, gd⟩ : Oper) :: rest) a w := h
theorem at_build {T : Nat} {ps : Array (Nat × Operand)} (h : wpList Tryz.prog ops Q ((⟨dst, .build T ps, ty, pos, af, gd⟩ : Oper) :: rest) a w) : wpList Tryz.prog ops Q ((⟨dst, .build T ps, ty, pos, af, gd⟩ : Oper) :: rest) a w := h
theorem at_load {T : Nat} {x : Operand} (h : wpList Tryz.prog ops Q ((⟨dst, .load T x, ty, pos, af, gd⟩ : Oper) :: rest) a w) : wpList Tryz.prog ops Q ((⟨dst, .load T x, ty, pos, af, gd⟩ : Oper) :: rest) a w := h
theorem at_store {T : Nat} {x y : Operand} (h : wpList Tryz.prog ops Q ((⟨dst, .store T x y, ty, pos, af, gd⟩ : Oper) :: rest) a w) : wpList Tryz.prog ops Q ((⟨dst, .store T x y, ty, pos, af, gd⟩ : Oper) :: rest) a w := h
theorem at_guard {op : Op} {g : Nat × Bool} (h : wpList Tryz.prog ops Q ((⟨dst, op, ty, pos, af, some g⟩ : Oper) :: rest) a w) : wpList Tryz.prog ops Q ((⟨dst, op, ty, pos, af, some g⟩ : Oper) :: rest) a w := h
theorem wp_cond_here {x : Operand} {c d : Code} (h : (Code.cond x c d).wp Tryz.prog Q a w) : (Code.cond x c d).wp Tryz.prog Q a w := h
theorem wpList_pass (hw : Region.wanted o (yielded ops a.tmps) = false) (h : wpList Tryz.prog ops Q rest (a.put o.dst undef) w) : wpList Tryz.prog ops Q (o :: rest) a w := by
  rw [wpList_skip_eq hw]; exact h
theorem wpList_wanted (hw : Region.wanted o (yielded ops a.tmps) = true) (h : wpList Tryz.prog ops Q (o :: rest) a w) : wpList Tryz.prog ops Q (o :: rest) a w := h
theorem wpList_one (hw : Region.wanted o (yielded ops a.tmps) = true) (h : ∀ K : Act → World → Prop, (∀ a w, wpList Tryz.prog ops Q rest a w → K a w) → o.wp Tryz.prog a w K Q) : wpList Tryz.prog ops Q (o :: rest) a w := by
  unfold wpList
  rw [if_pos hw]
  exact .inl (h _ fun _ _ h => h)
theorem wpList_box_agg {T : Nat} {x : Operand} (ho : o.op = .box T x) (hS : St L w0 rows w) (hw : Region.wanted o (yielded ops a.tmps) = true) {cs : Array Value} (hx : a.eval x = .agg cs)
    (h : ∀ g w', St L w0 ((g, cs, T) :: rows) w' → wpList Tryz.prog ops Q rest (a.put o.dst (.pointer (some ⟨g, 0, none⟩))) w') : wpList Tryz.prog ops Q (o :: rest) a w :=
  wpList_one hw fun K hK => by
    unfold Oper.wp execOp
    simp only [ho, hx, Instr.box, newVar, newRow, Value.cells]
    exact hK _ _ (h _ _ (hS.alloc cs T))
theorem wpList_box_one {T : Nat} {x : Operand} (ho : o.op = .box T x) (hS : St L w0 rows w) (hw : Region.wanted o (yielded ops a.tmps) = true) {v : Value} (hx : a.eval x = v) (hv : v.oneCell' = true)
    (h : ∀ g w', St L w0 ((g, #[v], T) :: rows) w' → wpList Tryz.prog ops Q rest (a.put o.dst (.pointer (some ⟨g, 0, none⟩))) w') : wpList Tryz.prog ops Q (o :: rest) a w :=
  wpList_one hw fun K hK => by
    have hc : v.cells = #[v] := by cases v <;> first | rfl | simp [Value.oneCell'] at hv
    unfold Oper.wp execOp
    simp only [ho, hx, Instr.box, newVar, newRow, hc]
    exact hK _ _ (h _ _ (hS.alloc #[v] T))
theorem wpList_new (T : Nat) (ho : o.op = .alloc T) (hS : St L w0 rows w) (hw : Region.wanted o (yielded ops a.tmps) = true) (cs : Array Value) (hz : ∀ w, (zeroValue T).run Tryz.prog w = .ok (.agg cs) w)
    (h : ∀ g w', St L w0 ((g, cs, T) :: rows) w' → wpList Tryz.prog ops Q rest (a.put o.dst (.pointer (some ⟨g, 0, none⟩))) w') : wpList Tryz.prog ops Q (o :: rest) a w :=
  wpList_one hw fun K hK => by
    unfold Oper.wp execOp
    simp only [ho, Instr.alloc, newVar, newRow, Sem.run_bind, hz, Result.andThen_ok, Value.cells]
    exact hK _ _ (h _ _ (hS.alloc cs T))
/-- A struct is built of its fields' values. -/
theorem wpList_bld {T : Nat} {l : List (Nat × Operand)} (ho : o.op = .build T l.toArray) (hw : Region.wanted o (yielded ops a.tmps) = true) {ps : List (Nat × Value)} (hp : l.map (fun p => (p.1, a.eval p.2)) = ps) {v : Value} (hv : ∀ w, (Instr.build T ps.toArray).run Tryz.prog w = .ok v w)
    (h : wpList Tryz.prog ops Q rest (a.put o.dst v) w) : wpList Tryz.prog ops Q (o :: rest) a w :=
  wpList_one hw fun K hK => by
    unfold Oper.wp execOp
    have e : (l.toArray.map fun p => (p.1, a.eval p.2)) = ps.toArray := by rw [List.map_toArray, hp]
    simp only [ho, Sem.run_bind, e, hv, Sem.run_pure, Result.andThen_ok]
    exact hK _ _ h
/-- A whole row is read. -/
theorem wpList_ld_row (T : Nat) {x : Operand} (ho : o.op = .load T x) (hS : St L w0 rows w) (hw : Region.wanted o (yielded ops a.tmps) = true) {g : Nat} (hx : a.eval x = .pointer (some ⟨g, 0, none⟩)) {cs : Array Value} {T' : Nat} (hm : RowAt g cs T' rows)
    {d : TypeDesc} (hu : Tryz.prog.underlying T = some d) (hd : d.isRow = true) (hi : (Tryz.prog.info? T).map (·.size) = some cs.size)
    (h : wpList Tryz.prog ops Q rest (a.put o.dst (.agg cs)) w) : wpList Tryz.prog ops Q (o :: rest) a w :=
  wpList_load_part hw T x ho g 0 hx T' cs cs (0, 0) d (hS.row hm) (fun j v hj => by simpa using hj) hu hd hi h
/-- A struct in the middle of a row is read. -/
theorem wpList_ld_part (T : Nat) {x : Operand} (ho : o.op = .load T x) (hS : St L w0 rows w) (hw : Region.wanted o (yielded ops a.tmps) = true) {g : Nat} (off : Nat) (hx : a.eval x = .pointer (some ⟨g, off, none⟩)) {cs ds : Array Value} {T' : Nat} (hm : RowAt g cs T' rows)
    (hp : ∀ j v, ds[j]? = some v → cs[off + j]? = some v) {d : TypeDesc} (hu : Tryz.prog.underlying T = some d) (hd : d.isRow = true) (hi : (Tryz.prog.info? T).map (·.size) = some ds.size)
    (h : wpList Tryz.prog ops Q rest (a.put o.dst (.agg ds)) w) : wpList Tryz.prog ops Q (o :: rest) a w :=
  wpList_load_part hw T x ho g off hx T' cs ds (0, 0) d (hS.row hm) hp hu hd hi h
theorem run_ld_cell (hS : St L w0 rows w) {T : Nat} {x : Operand} (ho : o.op = .load T x) {g off : Nat} (hx : a.eval x = .pointer (some ⟨g, off, none⟩)) {cs : Array Value} {T' : Nat} (hm : RowAt g cs T' rows)
    (hT : ∃ d, Tryz.prog.underlying T = some d ∧ d.isRow = false) {v : Value} (hv : cs[off]? = some v) : (execOp a.eval o).run Tryz.prog w = .ok (.value v) w := by
  obtain ⟨d, hu, hd⟩ := hT
  have hagg : (isAgg T).run Tryz.prog w = .ok false w := by
    unfold isAgg
    rw [Sem.run_bind, run_underlying hu w]
    cases d <;> simp_all
  have hc : w.cell? ⟨g, off, none⟩ = some v := (cell_of_row w g off cs T' (0, 0) (hS.row hm)).trans hv
  have hl : (loadVar T ⟨g, off, none⟩).run Tryz.prog w = .ok v w := by simp [loadVar, Sem.run_bind, hagg, hc]
  unfold execOp
  simp only [ho, hx, Instr.loadAt, Instr.sureAddr, Sem.run_bind, Sem.run_pure, Result.andThen_ok, hl]
theorem run_ld_part (hS : St L w0 rows w) {T : Nat} {x : Operand} (ho : o.op = .load T x) {g off : Nat} (hx : a.eval x = .pointer (some ⟨g, off, none⟩)) {cs ds : Array Value} {T' : Nat} (hm : RowAt g cs T' rows)
    (hp : ∀ j v, ds[j]? = some v → cs[off + j]? = some v) {d : TypeDesc} (hu : Tryz.prog.underlying T = some d) (hd : d.isRow = true) (hi : (Tryz.prog.info? T).map (·.size) = some ds.size) : (execOp a.eval o).run Tryz.prog w = .ok (.value (.agg ds)) w := by
  have hr : w.rangeAt g off ds.toList := fun j v hv => by
    rw [cell_of_row w g (off + j) cs T' (0, 0) (hS.row hm)]
    exact hp j v (by simpa using hv)
  have hl := run_loadVar_mid (P := Tryz.prog) w g off T ds.toList d hr hu hd (by simpa using hi)
  unfold execOp
  simp only [ho, hx, Instr.loadAt, Instr.sureAddr, Sem.run_bind, Sem.run_pure, Result.andThen_ok, hl, Array.toArray_toList]
/-- One cell of a row is read. -/
theorem wpList_ld_cell {T : Nat} {x : Operand} (ho : o.op = .load T x) (hS : St L w0 rows w) (hw : Region.wanted o (yielded ops a.tmps) = true) {g off : Nat} (hx : a.eval x = .pointer (some ⟨g, off, none⟩)) {cs : Array Value} {T' : Nat} (hm : RowAt g cs T' rows)
    (hT : ∃ d, Tryz.prog.underlying T = some d ∧ d.isRow = false) {v : Value} (hv : cs[off]? = some v)
    (h : wpList Tryz.prog ops Q rest (a.put o.dst v) w) : wpList Tryz.prog ops Q (o :: rest) a w :=
  wpList_one hw fun K hK => by
    unfold Oper.wp
    rw [run_ld_cell hS ho hx hm hT hv]
    exact hK _ _ h
theorem store_seg (hS : St L w0 rows w) {T : Nat} {g off : Nat} {cs new : Array Value} {T' : Nat} {rows'} (hm : RowSet g cs new T' rows rows') (v : Value) (hfit : off + v.cells.size ≤ cs.size)
    (hnew : cs.toList.take off ++ v.cells.toList ++ cs.toList.drop (off + v.cells.size) = new.toList) (hi : (Tryz.prog.info? T).map (·.size) = some v.cells.size) (h1 : v.cells.all (·.oneCell') = true) :
    ∃ w', (storeVar T ⟨g, off, none⟩ v).run Tryz.prog w = .ok () w' ∧ St L w0 rows' w' := by
  refine ⟨w.setRow g new, ?_, hS.set hm⟩
  have hst := run_storeCells_at Tryz.prog g off T' v.cells.toList 0 cs w (hS.has _ hm.mem).1 (by simpa using hfit) (fun u hu => (Array.all_eq_true_iff_forall_mem.1 h1) u (by simpa using hu))
  have e : (cs.toList.take (off + 0) ++ v.cells.toList ++ cs.toList.drop (off + 0 + v.cells.toList.length)).toArray = new := by
    rw [Nat.add_zero, Array.length_toList, hnew]
  rw [e] at hst
  cases hq : Tryz.prog.info? T with
  | none => simp [hq] at hi
  | some i =>
    have hs : v.cells.size = i.size := by simp [hq] at hi; omega
    simp [storeVar, sizeOf, typeInfo, hq, hs, hst]
/-- A value is stored in a row: a struct, or one cell. -/
theorem wpList_st {T : Nat} {x y : Operand} (ho : o.op = .store T x y) (hS : St L w0 rows w) (hw : Region.wanted o (yielded ops a.tmps) = true) {g off : Nat} (hx : a.eval x = .pointer (some ⟨g, off, none⟩)) {v : Value} (hy : a.eval y = v)
    {cs new : Array Value} {T' : Nat} {rows'} (hm : RowSet g cs new T' rows rows') (hfit : off + v.cells.size ≤ cs.size)
    (hnew : cs.toList.take off ++ v.cells.toList ++ cs.toList.drop (off + v.cells.size) = new.toList) (hi : (Tryz.prog.info? T).map (·.size) = some v.cells.size) (h1 : v.cells.all (·.oneCell') = true)
    (h : ∀ w', St L w0 rows' w' → wpList Tryz.prog ops Q rest (a.put o.dst undef) w') : wpList Tryz.prog ops Q (o :: rest) a w :=
  wpList_one hw fun K hK => by
    obtain ⟨w', hs, hS'⟩ := store_seg hS hm v hfit hnew hi h1
    unfold Oper.wp execOp
    simp only [ho, hx, hy, Instr.storeAt, Instr.sureAddr, Sem.run_bind, Sem.run_pure, Result.andThen_ok, hs]
    exact hK _ _ (h _ hS')
theorem wpList_st_agg {T : Nat} {x y : Operand} (ho : o.op = .store T x y) (hS : St L w0 rows w) (hw : Region.wanted o (yielded ops a.tmps) = true) {g off : Nat} (hx : a.eval x = .pointer (some ⟨g, off, none⟩)) {vs : Array Value} (hy : a.eval y = .agg vs)
    {cs new : Array Value} {T' : Nat} {rows'} (hm : RowSet g cs new T' rows rows') (hfit : off + (Value.cells (.agg vs)).size ≤ cs.size)
    (hnew : cs.toList.take off ++ (Value.cells (.agg vs)).toList ++ cs.toList.drop (off + (Value.cells (.agg vs)).size) = new.toList) (hi : (Tryz.prog.info? T).map (·.size) = some (Value.cells (.agg vs)).size) (h1 : (Value.cells (.agg vs)).all (·.oneCell') = true)
    (h : ∀ w', St L w0 rows' w' → wpList Tryz.prog ops Q rest (a.put o.dst undef) w') : wpList Tryz.prog ops Q (o :: rest) a w :=
  wpList_st ho hS hw hx hy hm hfit hnew hi h1 h
theorem wpList_st_int {T : Nat} {x y : Operand} (ho : o.op = .store T x y) (hS : St L w0 rows w) (hw : Region.wanted o (yielded ops a.tmps) = true) {g off : Nat} (hx : a.eval x = .pointer (some ⟨g, off, none⟩)) {kd : IntKind} {n : Int} (hy : a.eval y = .int kd n)
    {cs new : Array Value} {T' : Nat} {rows'} (hm : RowSet g cs new T' rows rows') (hfit : off + (Value.cells (.int kd n)).size ≤ cs.size)
    (hnew : cs.toList.take off ++ (Value.cells (.int kd n)).toList ++ cs.toList.drop (off + (Value.cells (.int kd n)).size) = new.toList) (hi : (Tryz.prog.info? T).map (·.size) = some (Value.cells (.int kd n)).size) (h1 : (Value.cells (.int kd n)).all (·.oneCell') = true)
    (h : ∀ w', St L w0 rows' w' → wpList Tryz.prog ops Q rest (a.put o.dst undef) w') : wpList Tryz.prog ops Q (o :: rest) a w :=
  wpList_st ho hS hw hx hy hm hfit hnew hi h1 h
theorem wpList_st_str {T : Nat} {z y : Operand} (ho : o.op = .store T z y) (hS : St L w0 rows w) (hw : Region.wanted o (yielded ops a.tmps) = true) {g off : Nat} (hx : a.eval z = .pointer (some ⟨g, off, none⟩)) {x : ByteArray} (hy : a.eval y = .string x)
    {cs new : Array Value} {T' : Nat} {rows'} (hm : RowSet g cs new T' rows rows') (hfit : off + (Value.cells (.string x)).size ≤ cs.size)
    (hnew : cs.toList.take off ++ (Value.cells (.string x)).toList ++ cs.toList.drop (off + (Value.cells (.string x)).size) = new.toList) (hi : (Tryz.prog.info? T).map (·.size) = some (Value.cells (.string x)).size) (h1 : (Value.cells (.string x)).all (·.oneCell') = true)
    (h : ∀ w', St L w0 rows' w' → wpList Tryz.prog ops Q rest (a.put o.dst undef) w') : wpList Tryz.prog ops Q (o :: rest) a w :=
  wpList_st ho hS hw hx hy hm hfit hnew hi h1 h
theorem wpList_st_bool {T : Nat} {z y : Operand} (ho : o.op = .store T z y) (hS : St L w0 rows w) (hw : Region.wanted o (yielded ops a.tmps) = true) {g off : Nat} (hx : a.eval z = .pointer (some ⟨g, off, none⟩)) {x : Bool} (hy : a.eval y = .bool x)
    {cs new : Array Value} {T' : Nat} {rows'} (hm : RowSet g cs new T' rows rows') (hfit : off + (Value.cells (.bool x)).size ≤ cs.size)
    (hnew : cs.toList.take off ++ (Value.cells (.bool x)).toList ++ cs.toList.drop (off + (Value.cells (.bool x)).size) = new.toList) (hi : (Tryz.prog.info? T).map (·.size) = some (Value.cells (.bool x)).size) (h1 : (Value.cells (.bool x)).all (·.oneCell') = true)
    (h : ∀ w', St L w0 rows' w' → wpList Tryz.prog ops Q rest (a.put o.dst undef) w') : wpList Tryz.prog ops Q (o :: rest) a w :=
  wpList_st ho hS hw hx hy hm hfit hnew hi h1 h
/-- A struct result that lies in a row. -/
theorem St.result (hS : St L w0 rows w) {fn : Func} {p : Tmp} {T : Nat} (hf : fn.results = #[.cell p T]) {g : Nat} (hp : a.tmps.getD p undef = .pointer (some ⟨g, 0, none⟩)) {cs : Array Value} {T' : Nat} (hm : RowAt g cs T' rows)
    {d : TypeDesc} (hu : Tryz.prog.underlying T = some d) (hd : d.isRow = true) (hi : (Tryz.prog.info? T).map (·.size) = some cs.size) (hdef : a.defers = []) {R : Ending → World → Prop} (hR : Below w0.heap.size w0 w → R (.returned (.agg cs)) w) : bodyPost Tryz.prog fn R .ret a w :=
  bodyPost_ret (results_cell_row hf a.tmps w g T' cs (0, 0) d hp (hS.row hm) hu (by cases d <;> first | rfl | exact hd) hi) hdef (hR hS.below)
theorem ret_cells {X : Type} {f : X → Array Value} {x y : X} (h : x = y) : Ending.returned (.agg (f x)) = .returned (.agg (f y)) := by rw [h]
end
end Go.Proofs.YtakgfbcmkhcdkaaGreatDoor
namespace Go.Proofs.YtakgfbcmkhcdkaaGreatDoor
set_option linter.all false
theorem Tryz.follows_mixed : Tryz.prog.follows .mixedOrders = true := by kernel_rfl
section
variable {P : Program} {ops : Array Oper} {Q : Exit → Act → World → Prop} {md : Region.Mode} {S : World → Prop}
/-- What a run leaves: the value v, in a world that meets S. -/
def Yld (P : Program) (S : World → Prop) (v : Value) : Result Next → Prop
  | .ok (.value u) w' => u = v ∧ S w'
  | .ok .skip w' => v = undef ∧ S w'
  | .ok (.enter f args) w' => Calls P f args w' fun e w'' => e = .returned v ∧ S w''
  | _ => False
theorem Yld.upon {o : Oper} {a : Act} {v : Value} {r : Result Next} {next : Act → World → Prop} (h : Yld P S v r) (hn : ∀ w', S w' → next (a.put o.dst v) w') : o.upon P a next Q r := by
  cases r with
  | halt x w' => exact h.elim
  | ok n w' =>
    cases n with
    | value u => obtain ⟨rfl, hs⟩ := h; exact hn _ hs
    | skip => obtain ⟨rfl, hs⟩ := h; exact hn _ hs
    | enter f args =>
      refine Calls.mono (show Calls P f args w' _ from h) fun e w'' he => ?_
      obtain ⟨rfl, hs⟩ := he
      exact hn _ hs
    | _ => exact h.elim
def YSt (P : Program) (ops : Array Oper) (S : World → Prop) (o : Oper) (v : Value) (a : Act) : Prop :=
  (Region.wanted o (yielded ops a.tmps) = true ∧ ∀ w, S w → Yld P S v ((execOp a.eval o).run P w)) ∨ (Region.wanted o (yielded ops a.tmps) = false ∧ v = undef)
theorem YSt.op {i : Nat} {o : Oper} {v : Value} {a : Act} (hi : ops[i]? = some o) (hy : YSt P ops S o v a) {K : Act → World → Prop} {w : World} (hS : S w) (h : ∀ w', S w' → K (a.put o.dst v) w') : wpOp P ops Q i K a w := by
  unfold Go.wpOp
  rw [hi]
  simp only
  rcases hy with ⟨hw, hv⟩ | ⟨hw, rfl⟩
  · rw [if_pos hw]; exact .inl ((hv w hS).upon h)
  · rw [if_neg (by rw [hw]; decide)]; exact h w hS
theorem YSt.same {o : Oper} {v : Value} {a a' : Act} (hy : YSt P ops S o v a) (he : execOp a'.eval o = execOp a.eval o) (hw : Region.wanted o (yielded ops a'.tmps) = Region.wanted o (yielded ops a.tmps)) : YSt P ops S o v a' := by
  rcases hy with ⟨h1, h2⟩ | ⟨h1, h2⟩
  · exact .inl ⟨hw.trans h1, fun w hs => by rw [he]; exact h2 w hs⟩
  · exact .inr ⟨hw.trans h1, h2⟩
/-- Operation j ahead of an operation i that is apart from it. -/
theorem op_ahead {j : Nat} {oi oj : Oper} {v : Value} (hj : ops[j]? = some oj) (hap : oi.apart ops oj = true) (hsi : ∀ cs b, oi.op ≠ .select cs b) (hsj : ∀ cs b, oj.op ≠ .select cs b)
    (hQ : ∀ c a w, Q (.panic c) (a.put oi.dst v) w → Q (.panic c) a w) {K : Act → World → Prop} {a : Act} {w : World} (hy : YSt P ops S oi v a) (h : wpOp P ops Q j K (a.put oi.dst v) w) :
    wpOp P ops Q j (fun a' w' => YSt P ops S oi v a' ∧ K (a'.put oi.dst v) w') a w := by
  obtain ⟨p1, p2, p3⟩ := Oper.apart_spec hap
  have kp : ∀ u, YSt P ops S oi v (a.put oj.dst u) := fun u => hy.same (execOp_put oi hsi a oj.dst u p3) (wanted_put oi a oj.dst u p3)
  have cm : ∀ u, (a.put oi.dst v).put oj.dst u = (a.put oj.dst u).put oi.dst v := fun u => Act.put_comm a v u p2
  have ex : execOp (a.put oi.dst v).eval oj = execOp a.eval oj := execOp_put oj hsj a oi.dst v p1
  unfold wpOp at h ⊢
  rw [hj] at h ⊢
  simp only at h ⊢
  rw [wanted_put oj a oi.dst v p1] at h
  by_cases hw : Region.wanted oj (yielded ops a.tmps) = true
  · rw [if_pos hw] at h ⊢
    rcases h with h | ⟨h1, h2⟩
    · left
      unfold Oper.wp at h ⊢
      rw [ex] at h
      revert h
      generalize (execOp a.eval oj).run P w = r
      intro h
      match r, h with
      | .ok (.value u) w', h => exact ⟨kp u, by rw [← cm u]; exact h⟩
      | .ok .skip w', h => exact ⟨kp undef, by rw [← cm undef]; exact h⟩
      | .ok (.defer d) w', h =>
        have h' : K (({ a.put oi.dst v with defers := d :: (a.put oi.dst v).defers } : Act).put oj.dst undef) w' := h
        rw [Act.put_defers] at h'
        have hyd : YSt P ops S oi v ({ a with defers := d :: a.defers } : Act) := hy.same rfl rfl
        refine ⟨hyd.same (execOp_put oi hsi _ oj.dst undef p3) (wanted_put oi _ oj.dst undef p3), ?_⟩
        rw [← Act.put_comm _ v undef p2]; exact h'
      | .ok (.enter f args) w', h =>
        refine Calls.mono (show Calls P f args w' _ from h) fun e w'' he => ?_
        cases e with
        | returned u => exact ⟨kp u, by rw [← cm u]; exact he⟩
        | panicked c => exact hQ _ _ _ he
        | outgrown => exact he
      | .ok (.row row args) w', h => exact Rows.mono (show Rows P row args w' _ from h) fun u w'' he => ⟨kp u, by rw [← cm u]; exact he⟩
      | .halt (.panic u) w', h => exact hQ _ _ _ h
    · right
      refine ⟨?_, h2⟩
      unfold Oper.asks at h1 ⊢
      rw [ex] at h1; exact h1
  · rw [if_neg hw] at h ⊢
    exact ⟨kp undef, by rw [← cm undef]; exact h⟩
/-- Whatever order is picked from here on, in whatever world that meets S. -/
def wpAnyS (P : Program) (md : Region.Mode) (ops : Array Oper) (Q : Exit → Act → World → Prop) (S : World → Prop) : Nat → Array Bool → Act → Prop
  | 0, listed, a => Region.ready md ops listed = [] ∧ ∀ w, S w → Q .normal a w
  | fuel + 1, listed, a => (Region.ready md ops listed = [] → ∀ w, S w → Q .normal a w) ∧
    ∀ i ∈ Region.ready md ops listed, ∀ w, S w → wpOp P ops Q i (fun a' w' => S w' ∧ wpAnyS P md ops Q S fuel (listed.setIfInBounds i true) a') a w
theorem wpAny_of_S : ∀ (fuel : Nat) (listed : Array Bool) (a : Act) (w : World), S w → wpAnyS P md ops Q S fuel listed a → wpAny P md ops Q fuel listed a w
  | 0, _, _, w, hs, h => ⟨h.1, h.2 w hs⟩
  | fuel + 1, _, _, w, hs, h => ⟨fun e => h.1 e w hs, fun i hi => wpOp_mono (fun a' w' h' => wpAny_of_S fuel _ a' w' h'.1 h'.2) (h.2 i hi w hs)⟩
theorem take_S {i : Nat} {oi : Oper} {v : Value} (hi : ops[i]? = some oi) (hsel : ∀ (j : Nat) (o : Oper) cs b, ops[j]? = some o → o.op ≠ .select cs b) (hQ : ∀ c a w, Q (.panic c) (a.put oi.dst v) w → Q (.panic c) a w) :
    ∀ (fuel : Nat) (listed : Array Bool) (a : Act),
      (∀ j oj, ops[j]? = some oj → j ≠ i → listed.getD j true = false → (∀ e ∈ oj.after, Region.binds md e = true → e.on ≠ i) → oi.apart ops oj = true) →
      i ∈ Region.ready md ops listed → YSt P ops S oi v a → wpAnyS P md ops Q S fuel (listed.setIfInBounds i true) (a.put oi.dst v) → wpAnyS P md ops Q S (fuel + 1) listed a := by
  intro fuel
  induction fuel with
  | zero =>
    intro listed a _ hr hy H
    refine ⟨fun h => (by rw [h] at hr; cases hr), fun j hj w hs => ?_⟩
    by_cases e : j = i
    · subst e; exact hy.op hi hs fun w' hs' => ⟨hs', H⟩
    · have := ready_mono hj e
      rw [H.1] at this
      cases this
  | succ fuel ih =>
    intro listed a hfree hr hy H
    refine ⟨fun h => (by rw [h] at hr; cases hr), fun j hj w hs => ?_⟩
    by_cases e : j = i
    · subst e; exact hy.op hi hs fun w' hs' => ⟨hs', H⟩
    · obtain ⟨hjn, oj, hoj, haft⟩ := mem_ready.1 hj
      have hno : ∀ x ∈ oj.after, Region.binds md x = true → x.on ≠ i := fun x hx hb hq => by
        have h1 := haft x hx hb
        have h0 := (mem_ready.1 hr).1
        rw [hq] at h1
        rcases Nat.lt_or_ge i listed.size with h' | h'
        · simp [h'] at h0 h1; rw [h0] at h1; cases h1
        · simp [Array.getElem?_eq_none h'] at h1
      have h2 := op_ahead hoj (hfree j oj hoj e hjn hno) (fun cs b => hsel i oi cs b hi) (fun cs b => hsel j oj cs b hoj) hQ hy (H.2 j (ready_mono hj e) w hs)
      refine wpOp_mono (fun a' w' h3 => ⟨h3.2.1, ih (listed.setIfInBounds j true) a' ?_ (ready_mono hr (Ne.symm e)) h3.1 ?_⟩) h2
      · intro k ok hk hki hun hn
        refine hfree k ok hk hki ?_ hn
        by_cases hjk : j = k
        · subst hjk; exact hjn
        · rw [getD_set_ne true hjk] at hun; exact hun
      · rw [Array.setIfInBounds_comm _ _ e]
        exact h3.2.2
/-- The text's order is one that the region allows, and no operation that may come up ahead of its turn touches what another leaves. -/
def orderly (md : Region.Mode) (ops : Array Oper) : Nat → Nat → Array Bool → Bool
  | 0, _, listed => (Region.ready md ops listed).isEmpty
  | fuel + 1, i, listed => Region.free md ops listed i && ((Region.ready md ops listed).contains i && orderly md ops fuel (i + 1) (listed.setIfInBounds i true))
/-- The operations from here on, one behind the other, each leaving one value in every world that meets S. -/
inductive RunS (P : Program) (ops : Array Oper) (Q : Exit → Act → World → Prop) (S : World → Prop) : List Oper → Act → Prop
  | nil {a} : (∀ w, S w → Q .normal a w) → RunS P ops Q S [] a
  | cons {o rest a} (v : Value) : (∀ c a w, Q (.panic c) (a.put o.dst v) w → Q (.panic c) a w) → YSt P ops S o v a → RunS P ops Q S rest (a.put o.dst v) → RunS P ops Q S (o :: rest) a
theorem any_of_run (hs : Region.noSelect ops = true) : ∀ (l : List Oper) (i : Nat) (listed : Array Bool) (a : Act), (∀ j, l[j]? = ops[i + j]?) → orderly md ops l.length i listed = true → RunS P ops Q S l a → wpAnyS P md ops Q S l.length listed a
  | [], i, listed, a, _, ho, h => by
    cases h with
    | nil h => exact ⟨by simpa [orderly] using ho, h⟩
  | o :: rest, i, listed, a, hl, ho, h => by
    cases h with
    | cons v hQ hy h =>
      simp only [List.length_cons, orderly, Bool.and_eq_true] at ho
      obtain ⟨hf, hr, ho⟩ := ho
      have hi : ops[i]? = some o := by simpa using (hl 0).symm
      have hl' : ∀ j, rest[j]? = ops[i + 1 + j]? := fun j => by have := hl (j + 1); simpa [Nat.add_assoc, Nat.add_comm 1 j] using this
      exact take_S hi (Region.noSelect_spec hs) hQ rest.length listed a (Region.free_spec hi hf) (by simpa using hr) hy (any_of_run hs rest (i + 1) _ _ hl' ho h)
/-- Every other operation of the region comes ahead of operation fin. -/
def lastOf (md : Region.Mode) (ops : Array Oper) (fin : Nat) : Bool :=
  match ops[fin]? with
  | some o => (List.range ops.size).all fun j => j == fin || o.after.any fun e => Region.binds md e && e.on == j
  | none => false
theorem lastOf_spec {fin : Nat} (h : lastOf md ops fin = true) {listed : Array Bool} (hr : fin ∈ Region.ready md ops listed) {j : Nat} (hj : j < ops.size) (hne : j ≠ fin) : listed.getD j true = true := by
  obtain ⟨_, o, ho, hall⟩ := mem_ready.1 hr
  unfold lastOf at h
  rw [ho] at h
  have h1 := List.all_eq_true.1 h j (List.mem_range.2 hj)
  simp only [Bool.or_eq_true, beq_iff_eq, hne, false_or] at h1
  obtain ⟨k, hk, he⟩ := Array.any_eq_true.1 h1
  simp only [Bool.and_eq_true, beq_iff_eq] at he
  have h2 := hall _ (Array.getElem_mem hk) he.1
  rw [he.2] at h2
  rcases Nat.lt_or_ge j listed.size with h' | h'
  · simpa [h'] using h2
  · simp [Array.getElem?_eq_none h'] at h2
/-- Whatever order is picked, and operation fin behind all others. -/
def wpAnyT (P : Program) (md : Region.Mode) (ops : Array Oper) (Q : Exit → Act → World → Prop) (S : World → Prop) (fin : Nat) : Nat → Array Bool → Act → Prop
  | 0, listed, a => Region.ready md ops listed = [fin] ∧ Region.ready md ops (listed.setIfInBounds fin true) = [] ∧ ∀ w, S w → wpOp P ops Q fin (Q .normal) a w
  | fuel + 1, listed, a => Region.ready md ops listed ≠ [] ∧ ∀ i ∈ Region.ready md ops listed, ∀ w, S w → wpOp P ops Q i (fun a' w' => S w' ∧ wpAnyT P md ops Q S fin fuel (listed.setIfInBounds i true) a') a w
theorem wpAny_of_T {fin : Nat} : ∀ (fuel : Nat) (listed : Array Bool) (a : Act) (w : World), S w → wpAnyT P md ops Q S fin fuel listed a → wpAny P md ops Q (fuel + 1) listed a w
  | 0, listed, a, w, hs, h => by
    obtain ⟨h1, h2, h3⟩ := h
    refine ⟨fun e => (by rw [h1] at e; cases e), fun i hi => ?_⟩
    rw [h1] at hi
    obtain rfl : i = fin := by simpa using hi
    exact wpOp_mono (fun a' w' hq => ⟨h2, hq⟩) (h3 w hs)
  | fuel + 1, _, _, w, hs, h => ⟨fun e => absurd e h.1, fun i hi => wpOp_mono (fun a' w' h' => wpAny_of_T fuel _ a' w' h'.1 h'.2) (h.2 i hi w hs)⟩
theorem take_T {fin i : Nat} {oi : Oper} {v : Value} (hl : lastOf md ops fin = true) (hif : i ≠ fin) (hi : ops[i]? = some oi) (hsel : ∀ (j : Nat) (o : Oper) cs b, ops[j]? = some o → o.op ≠ .select cs b) (hQ : ∀ c a w, Q (.panic c) (a.put oi.dst v) w → Q (.panic c) a w) :
    ∀ (fuel : Nat) (listed : Array Bool) (a : Act),
      (∀ j oj, ops[j]? = some oj → j ≠ i → listed.getD j true = false → (∀ e ∈ oj.after, Region.binds md e = true → e.on ≠ i) → oi.apart ops oj = true) →
      i ∈ Region.ready md ops listed → YSt P ops S oi v a → wpAnyT P md ops Q S fin fuel (listed.setIfInBounds i true) (a.put oi.dst v) → wpAnyT P md ops Q S fin (fuel + 1) listed a := by
  have hsz : i < ops.size := by
    rcases Nat.lt_or_ge i ops.size with h | h
    · exact h
    · rw [Array.getElem?_eq_none h] at hi; cases hi
  intro fuel
  induction fuel with
  | zero =>
    intro listed a _ hr hy H
    refine ⟨fun h => (by rw [h] at hr; cases hr), fun j hj w hs => ?_⟩
    by_cases e : j = i
    · subst e; exact hy.op hi hs fun w' hs' => ⟨hs', H⟩
    · have h1 := ready_mono hj e
      rw [H.1] at h1
      obtain rfl : j = fin := by simpa using h1
      have h2 := lastOf_spec hl hj hsz hif
      have h3 := (mem_ready.1 hr).1
      rw [h2] at h3; cases h3
  | succ fuel ih =>
    intro listed a hfree hr hy H
    refine ⟨fun h => (by rw [h] at hr; cases hr), fun j hj w hs => ?_⟩
    by_cases e : j = i
    · subst e; exact hy.op hi hs fun w' hs' => ⟨hs', H⟩
    · obtain ⟨hjn, oj, hoj, haft⟩ := mem_ready.1 hj
      have hno : ∀ x ∈ oj.after, Region.binds md x = true → x.on ≠ i := fun x hx hb hq => by
        have h1 := haft x hx hb
        have h0 := (mem_ready.1 hr).1
        rw [hq] at h1
        rcases Nat.lt_or_ge i listed.size with h' | h'
        · simp [h'] at h0 h1; rw [h0] at h1; cases h1
        · simp [Array.getElem?_eq_none h'] at h1
      have h2 := op_ahead hoj (hfree j oj hoj e hjn hno) (fun cs b => hsel i oi cs b hi) (fun cs b => hsel j oj cs b hoj) hQ hy (H.2 j (ready_mono hj e) w hs)
      refine wpOp_mono (fun a' w' h3 => ⟨h3.2.1, ih (listed.setIfInBounds j true) a' ?_ (ready_mono hr (Ne.symm e)) h3.1 ?_⟩) h2
      · intro k ok hk hki hun hn
        refine hfree k ok hk hki ?_ hn
        by_cases hjk : j = k
        · subst hjk; exact hjn
        · rw [getD_set_ne true hjk] at hun; exact hun
      · rw [Array.setIfInBounds_comm _ _ e]
        exact h3.2.2
def orderlyT (md : Region.Mode) (ops : Array Oper) (fin : Nat) : Nat → Nat → Array Bool → Bool
  | 0, _, listed => (Region.ready md ops listed == [fin]) && (Region.ready md ops (listed.setIfInBounds fin true)).isEmpty
  | fuel + 1, i, listed => Region.free md ops listed i && ((Region.ready md ops listed).contains i && (i != fin && orderlyT md ops fin fuel (i + 1) (listed.setIfInBounds i true)))
/-- The operations from here on, the last of them whatever it does. -/
inductive RunT (P : Program) (ops : Array Oper) (Q : Exit → Act → World → Prop) (S : World → Prop) : List Oper → Act → Prop
  | fin {o a} : (∀ w, S w → wpList P ops Q [o] a w) → RunT P ops Q S [o] a
  | cons {o o' rest a} (v : Value) : (∀ c a w, Q (.panic c) (a.put o.dst v) w → Q (.panic c) a w) → YSt P ops S o v a → RunT P ops Q S (o' :: rest) (a.put o.dst v) → RunT P ops Q S (o :: o' :: rest) a
theorem anyT_of_run (hs : Region.noSelect ops = true) {fin : Nat} (hlast : lastOf md ops fin = true) : ∀ (n : Nat) (l : List Oper) (i : Nat) (listed : Array Bool) (a : Act), l.length = n + 1 → i + n = fin → (∀ j, l[j]? = ops[i + j]?) → orderlyT md ops fin n i listed = true → RunT P ops Q S l a → wpAnyT P md ops Q S fin n listed a
  | 0, l, i, listed, a, hn, hf, hl, ho, h => by
    simp only [orderlyT, Bool.and_eq_true, beq_iff_eq, List.isEmpty_iff] at ho
    refine ⟨ho.1, ho.2, fun w hw => ?_⟩
    cases h with
    | @fin o _ h =>
      have hi : ops[fin]? = some o := by have := hl 0; rw [← hf]; simpa using this.symm
      have h1 := h w hw
      unfold wpOp
      rw [hi]
      simp only
      unfold wpList at h1
      exact h1
    | cons v hQ hy h => simp at hn
  | n + 1, l, i, listed, a, hn, hf, hl, ho, h => by
    cases h with
    | fin h => simp at hn
    | @cons o o' rest _ v hQ hy h =>
      simp only [orderlyT, Bool.and_eq_true, bne_iff_ne, ne_eq] at ho
      obtain ⟨hfr, hr, hne, ho⟩ := ho
      have hi : ops[i]? = some o := by simpa using (hl 0).symm
      have hl' : ∀ j, (o' :: rest)[j]? = ops[i + 1 + j]? := fun j => by have := hl (j + 1); simpa [Nat.add_assoc, Nat.add_comm 1 j] using this
      exact take_T hlast hne hi (Region.noSelect_spec hs) hQ n listed a (Region.free_spec hi hfr) (by simpa using hr) hy (anyT_of_run hs hlast n (o' :: rest) (i + 1) _ _ (by simpa using hn) (by omega) hl' ho h)
/-- A region that draws its order and ends in an operation that waits for all others. -/
theorem wp_region_T {id : Nat} {a : Act} {w : World} {l : List Oper} (n : Nat) (hn : l.length = n + 1) (hm : P.follows .mixedOrders = true) (hs : Region.noSelect l.toArray = true) (hlast : lastOf .any l.toArray n = true) (ho : orderlyT .any l.toArray n n 0 (Array.replicate (n + 1) false) = true)
    (hS : S w) (hd : ∀ w, S w → S w.drew) (h : RunT P l.toArray Q S l a) : (Code.region id l.toArray true).wp P Q a w := by
  have h1 := wpAny_of_T (P := P) (md := .any) (ops := l.toArray) (Q := Q) n (Array.replicate (n + 1) false) a _ (hd _ hS) (anyT_of_run hs hlast n l 0 _ a hn (by omega) (fun j => by simp) ho h)
  refine wp_region_any hm ?_
  have e : l.toArray.size = n + 1 := by simpa using hn
  rw [e]
  exact h1
/-- A region that draws its order, walked in the text's order. -/
theorem wp_region_S {id : Nat} {a : Act} {w : World} {l : List Oper} (hm : P.follows .mixedOrders = true) (hs : Region.noSelect l.toArray = true) (ho : orderly .any l.toArray l.length 0 (Array.replicate l.length false) = true)
    (hS : S w) (hd : ∀ w, S w → S w.drew) (h : RunS P l.toArray Q S l a) : (Code.region id l.toArray true).wp P Q a w := by
  refine wp_region_any hm (wpAny_of_S _ _ _ _ (hd _ hS) ?_)
  have := any_of_run (md := .any) hs l 0 (Array.replicate l.length false) a (fun j => by simp) ho h
  simpa using this
end
section
variable {L : World → Prop} {w0 w : World} {rows : List Row} {ops : Array Oper} {Q : Exit → Act → World → Prop} {o : Oper} {rest : List Oper} {a : Act}
/-- A region that draws its order, under the standing fact of the call's rows. -/
theorem wp_region_St {id : Nat} {l : List Oper} (hS : St L w0 rows w) (hs : Region.noSelect l.toArray = true) (ho : orderly .any l.toArray l.length 0 (Array.replicate l.length false) = true)
    (h : RunS Tryz.prog l.toArray Q (St L w0 rows) l a) : (Code.region id l.toArray true).wp Tryz.prog Q a w :=
  wp_region_S Tryz.follows_mixed hs ho hS (fun _ h => h.drew) h
theorem wp_region_Tt {id : Nat} {l : List Oper} (n : Nat) (hS : St L w0 rows w) (hn : l.length = n + 1) (hs : Region.noSelect l.toArray = true) (hlast : lastOf .any l.toArray n = true) (ho : orderlyT .any l.toArray n n 0 (Array.replicate (n + 1) false) = true)
    (h : RunT Tryz.prog l.toArray Q (St L w0 rows) l a) : (Code.region id l.toArray true).wp Tryz.prog Q a w :=
  wp_region_T n hn Tryz.follows_mixed hs hlast ho hS (fun _ h => h.drew) h
/-- One operation of a region with a last one, by the law for the other kind of region. -/
theorem runT_step {o' : Oper} {rest' : List Oper} {S : World → Prop} (v : Value) (hq : ∀ c a w, Q (.panic c) (a.put o.dst v) w → Q (.panic c) a w) (hy : YSt Tryz.prog ops S o v a) (h : RunT Tryz.prog ops Q S (o' :: rest') (a.put o.dst v)) : RunT Tryz.prog ops Q S (o :: o' :: rest') a := .cons v hq hy h
theorem runT_fin {S : World → Prop} (h : ∀ w, S w → wpList Tryz.prog ops Q [o] a w) : RunT Tryz.prog ops Q S [o] a := .fin h
theorem yst_val {v : Value} (hw : Region.wanted o (yielded ops a.tmps) = true) (hy : ∀ w, St L w0 rows w → (execOp a.eval o).run Tryz.prog w = .ok (.value v) w) : YSt Tryz.prog ops (St L w0 rows) o v a :=
  .inl ⟨hw, fun w hS => by rw [hy w hS]; exact ⟨rfl, hS⟩⟩
theorem runT_val {o' : Oper} {rest' : List Oper} {v : Value} (hw : Region.wanted o (yielded ops a.tmps) = true) (hq : ∀ c a w, Q (.panic c) (a.put o.dst v) w → Q (.panic c) a w) (hy : ∀ w, St L w0 rows w → (execOp a.eval o).run Tryz.prog w = .ok (.value v) w)
    (h : RunT Tryz.prog ops Q (St L w0 rows) (o' :: rest') (a.put o.dst v)) : RunT Tryz.prog ops Q (St L w0 rows) (o :: o' :: rest') a := .cons v hq (yst_val hw hy) h
theorem runT_call (k : Nat) {o' : Oper} {rest' : List Oper} {args : Array Value} {v : Value} (hw : Region.wanted o (yielded ops a.tmps) = true) (hq : ∀ c a w, Q (.panic c) (a.put o.dst v) w → Q (.panic c) a w) (hy : ∀ w, (execOp a.eval o).run Tryz.prog w = .ok (.enter k args) w)
    (hc : ∀ w, St L w0 rows w → Calls Tryz.prog k args w fun e w' => e = .returned v ∧ St L w0 rows w') (h : RunT Tryz.prog ops Q (St L w0 rows) (o' :: rest') (a.put o.dst v)) : RunT Tryz.prog ops Q (St L w0 rows) (o :: o' :: rest') a :=
  .cons v hq (.inl ⟨hw, fun w hS => by rw [hy w]; exact hc w hS⟩) h
theorem runS_here {P : Program} {S : World → Prop} (h : RunS P ops Q S (o :: rest) a) : RunS P ops Q S (o :: rest) a := h
theorem region_here {P : Program} {id : Nat} {l : Array Oper} (h : (Code.region id l true).wp P Q a w) : (Code.region id l true).wp P Q a w := h
variable {dst : Option Tmp} {ty : TypeId} {pos : String} {af : Array Edge} {gd : Option (Nat × Bool)}
theorem rat_load {P : Program} {S : World → Prop} {T : Nat} {x : Operand} (h : RunS P ops Q S ((⟨dst, .load T x, ty, pos, af, gd⟩ : Oper) :: rest) a) : RunS P ops Q S ((⟨dst, .load T x, ty, pos, af, gd⟩ : Oper) :: rest) a := h
theorem rat_call {P : Program} {S : World → Prop} {c : Call} (h : RunS P ops Q S ((⟨dst, .call c, ty, pos, af, gd⟩ : Oper) :: rest) a) : RunS P ops Q S ((⟨dst, .call c, ty, pos, af, gd⟩ : Oper) :: rest) a := h
theorem tat_load {P : Program} {S : World → Prop} {o' : Oper} {rest' : List Oper} {T : Nat} {x : Operand} (h : RunT P ops Q S ((⟨dst, .load T x, ty, pos, af, gd⟩ : Oper) :: o' :: rest') a) : RunT P ops Q S ((⟨dst, .load T x, ty, pos, af, gd⟩ : Oper) :: o' :: rest') a := h
theorem tat_call {P : Program} {S : World → Prop} {o' : Oper} {rest' : List Oper} {c : Call} (h : RunT P ops Q S ((⟨dst, .call c, ty, pos, af, gd⟩ : Oper) :: o' :: rest') a) : RunT P ops Q S ((⟨dst, .call c, ty, pos, af, gd⟩ : Oper) :: o' :: rest') a := h
theorem tat_any {P : Program} {S : World → Prop} {o' : Oper} {rest' : List Oper} (h : RunT P ops Q S (o :: o' :: rest') a) : RunT P ops Q S (o :: o' :: rest') a := h
theorem rat_guard {P : Program} {S : World → Prop} {op : Op} {g : Nat × Bool} (h : RunS P ops Q S ((⟨dst, op, ty, pos, af, some g⟩ : Oper) :: rest) a) : RunS P ops Q S ((⟨dst, op, ty, pos, af, some g⟩ : Oper) :: rest) a := h
theorem runS_end {S : World → Prop} (h : ∀ w, S w → Q .normal a w) : RunS Tryz.prog ops Q S [] a := .nil h
theorem runS_pass {S : World → Prop} (hw : Region.wanted o (yielded ops a.tmps) = false) (hq : ∀ c a w, Q (.panic c) (a.put o.dst undef) w → Q (.panic c) a w) (h : RunS Tryz.prog ops Q S rest (a.put o.dst undef)) : RunS Tryz.prog ops Q S (o :: rest) a :=
  .cons undef hq (.inr ⟨hw, rfl⟩) h
theorem runS_wanted {S : World → Prop} (hw : Region.wanted o (yielded ops a.tmps) = true) (h : RunS Tryz.prog ops Q S (o :: rest) a) : RunS Tryz.prog ops Q S (o :: rest) a := h
theorem runS_ask {S : World → Prop} {b : Bool} (j : Nat) (want : Bool) (hg : o.guard = some (j, want)) (hy : yielded ops a.tmps j = some b)
    (h1 : b = true → RunS Tryz.prog ops Q S (o :: rest) a) (h2 : b = false → RunS Tryz.prog ops Q S (o :: rest) a) : RunS Tryz.prog ops Q S (o :: rest) a := by
  cases b
  · exact h2 rfl
  · exact h1 rfl
theorem runS_val {v : Value} (hw : Region.wanted o (yielded ops a.tmps) = true) (hq : ∀ c a w, Q (.panic c) (a.put o.dst v) w → Q (.panic c) a w) (hy : ∀ w, St L w0 rows w → (execOp a.eval o).run Tryz.prog w = .ok (.value v) w)
    (h : RunS Tryz.prog ops Q (St L w0 rows) rest (a.put o.dst v)) : RunS Tryz.prog ops Q (St L w0 rows) (o :: rest) a :=
  .cons v hq (.inl ⟨hw, fun w hS => by rw [hy w hS]; exact ⟨rfl, hS⟩⟩) h
theorem runS_call (k : Nat) {args : Array Value} {v : Value} (hw : Region.wanted o (yielded ops a.tmps) = true) (hq : ∀ c a w, Q (.panic c) (a.put o.dst v) w → Q (.panic c) a w) (hy : ∀ w, (execOp a.eval o).run Tryz.prog w = .ok (.enter k args) w)
    (hc : ∀ w, St L w0 rows w → Calls Tryz.prog k args w fun e w' => e = .returned v ∧ St L w0 rows w') (h : RunS Tryz.prog ops Q (St L w0 rows) rest (a.put o.dst v)) : RunS Tryz.prog ops Q (St L w0 rows) (o :: rest) a :=
  .cons v hq (.inl ⟨hw, fun w hS => by rw [hy w]; exact hc w hS⟩) h
end
end Go.Proofs.YtakgfbcmkhcdkaaGreatDoor
