/- Loads, stores and builds of rows and parts of rows. Conditions: none. Memory that a call owns, kept as one list of rows: boxes, loads, stores, calls, results. Conditions: none. Regions that draw th -/
import Derived.Test.YtdnnbfbhifelkaaGreatDoorQ1
import Derived.Deep.MidRow
import Derived.Laws.CopyRow
import Derived.OrdersHeld
import Derived.Test.YtdnnbfbhifelkaaGreatDoorQ2
import Derived.KernelRfl
import Derived.Lib.ItoaMem
import Derived.Lib.Strings
import Derived.Laws.Concat
import Derived.Lib.CutLaws
import Derived.Lib.Index
set_option linter.all false
set_option maxRecDepth 100000
set_option maxHeartbeats 16000000
namespace Go.Proofs.YtdnnbfbhifelkaaGreatDoor
open Go.ChangeShapes Go.WideShapes Go.RowKit
theorem wpList_load_part {P : Program} {ops : Array Oper} {rest : List Oper} {o : Oper} {a : Act} {w : World} {Q : Exit → Act → World → Prop} (hw : Region.wanted o (yielded ops a.tmps) = true) (ty : TypeId) (x : Operand) (ho : o.op = .load ty x)
 (g off : Nat) (hx : a.eval x = .pointer (some ⟨g, off, none⟩)) (t : TypeId) (cs ds : Array Value) (fr : Nat × Nat) (d : TypeDesc) (hg : w.heap[g]? = some (.cells cs t fr)) (hp : ∀ j v, ds[j]? = some v → cs[off + j]? = some v)
 (hu : P.underlying ty = some d) (hd : d.isRow = true) (hi : (P.info? ty).map (·.size) = some ds.size)
 (h : wpList P ops Q rest (a.put o.dst (.agg ds)) w) : wpList P ops Q (o :: rest) a w := by
 unfold wpList
 rw [if_pos hw]
 refine .inl (wp_load_mid ty x ho g off hx ds.toList d ?_ hu hd (by simpa using hi) (by simpa using h))
 intro j v hv
 rw [cell_of_row w g (off + j) cs t fr hg]
 exact hp j v (by simpa using hv)
theorem wpList_store_part {P : Program} {ops : Array Oper} {rest : List Oper} {o : Oper} {a : Act} {w : World} {Q : Exit → Act → World → Prop} (hgd : o.guard = none) (ty : TypeId) (x y : Operand) (ho : o.op = .store ty x y)
 (g off : Nat) (t : TypeId) (cs ds new : Array Value) (hx : a.eval x = .pointer (some ⟨g, off, none⟩)) (hy : a.eval y = .agg ds) (hg : w.heap[g]? = some (.cells cs t (0, 0))) (hfit : off + ds.size ≤ cs.size)
 (hnew : cs.toList.take off ++ ds.toList ++ cs.toList.drop (off + ds.size) = new.toList) (hi : (P.info? ty).map (·.size) = some ds.size) (h1 : ds.all (·.oneCell') = true)
 (h : wpList P ops Q rest (a.put o.dst undef) (w.setRow g new)) : wpList P ops Q (o :: rest) a w :=
 wpList_plain hgd fun _ hK => by
  have hst := run_storeCells_at P g off t ds.toList 0 cs w hg (by simpa using hfit) (fun v hv => (Array.all_eq_true_iff_forall_mem.1 h1) v (by simpa using hv))
  have e : (cs.toList.take (off + 0) ++ ds.toList ++ cs.toList.drop (off + 0 + ds.toList.length)).toArray = new := by
   rw [Nat.add_zero, Array.length_toList, hnew]
  rw [e] at hst
  have hs : (storeVar ty ⟨g, off, none⟩ (.agg ds)).run P w = .ok () (w.setRow g new) := by
   cases hq : P.info? ty with
   | none => simp [hq] at hi
   | some i =>
     have hs : ds.size = i.size := by simp [hq] at hi; omega
     simp [storeVar, sizeOf, typeInfo, hq, Value.cells, hs, hst]
  unfold Oper.wp execOp
  simp only [ho, hx, hy, Instr.storeAt, Instr.sureAddr, Sem.run_bind, Sem.run_pure, Result.andThen_ok, hs]
  exact hK _ _ h
theorem wpList_skip_eq {P : Program} {ops : Array Oper} {rest : List Oper} {o : Oper} {a : Act} {w : World} {Q : Exit → Act → World → Prop} (hw : Region.wanted o (yielded ops a.tmps) = false) : wpList P ops Q (o :: rest) a w = wpList P ops Q rest (a.put o.dst undef) w := by
 conv => lhs; unfold wpList
 rw [if_neg (by rw [hw]; simp)]
theorem wpList_build_g {P : Program} {ops : Array Oper} {rest : List Oper} {o : Oper} {a : Act} {w : World} {Q : Exit → Act → World → Prop} (hw : Region.wanted o (yielded ops a.tmps) = true) (ty : TypeId) (i j : Nat) (x y : Operand) (ho : o.op = .build ty #[(i, x), (j, y)])
 (p q v : Value) (hx : a.eval x = p) (hy : a.eval y = q) (hv : (Instr.build ty #[(i, p), (j, q)]).run P w = .ok v w) (h : wpList P ops Q rest (a.put o.dst v) w) : wpList P ops Q (o :: rest) a w := by
 unfold wpList
 rw [if_pos hw]
 refine .inl ?_
 unfold Oper.wp execOp
 simp only [ho, List.map_toArray, List.map_cons, List.map_nil, hx, hy, Sem.run_bind, hv, Sem.run_pure, Result.andThen_ok]
 exact h
theorem wpList_store_int {P : Program} {ops : Array Oper} {rest : List Oper} {o : Oper} {a : Act} {w : World} {Q : Exit → Act → World → Prop} (hgd : o.guard = none) (ty : TypeId) (x y : Operand) (ho : o.op = .store ty x y)
 (g off : Nat) (t : TypeId) (cs new : Array Value) (kd : IntKind) (n : Int) (hx : a.eval x = .pointer (some ⟨g, off, none⟩)) (hy : a.eval y = .int kd n) (hg : w.heap[g]? = some (.cells cs t (0, 0))) (hfit : off + 1 ≤ cs.size)
 (hnew : cs.toList.take off ++ [Value.int kd n] ++ cs.toList.drop (off + 1) = new.toList) (hi : (P.info? ty).map (·.size) = some 1)
 (h : wpList P ops Q rest (a.put o.dst undef) (w.setRow g new)) : wpList P ops Q (o :: rest) a w :=
 wpList_plain hgd fun _ hK => by
  have hst := run_storeCells_at P g off t [.int kd n] 0 cs w hg (by simpa using hfit) (fun v hv => by rw [List.mem_singleton.1 hv]; rfl)
  have e : (cs.toList.take (off + 0) ++ [Value.int kd n] ++ cs.toList.drop (off + 0 + [Value.int kd n].length)).toArray = new := by
   rw [Nat.add_zero, List.length_singleton, hnew]
  rw [e] at hst
  have hs : (storeVar ty ⟨g, off, none⟩ (.int kd n)).run P w = .ok () (w.setRow g new) := by
   cases hq : P.info? ty with
   | none => simp [hq] at hi
   | some i =>
     have hs : i.size = 1 := by simpa [hq] using hi
     simp [storeVar, sizeOf, typeInfo, hq, Value.cells, hs, hst]
  unfold Oper.wp execOp
  simp only [ho, hx, hy, Instr.storeAt, Instr.sureAddr, Sem.run_bind, Sem.run_pure, Result.andThen_ok, hs]
  exact hK _ _ h
theorem infoInt1 : (Tryz.prog.info? 3).map (·.size) = some 1 := by kernel_rfl
theorem Tryz.fieldsF : Tryz.prog.underlying 25 = some (.struct (Tryz.prog.fieldsOf 25)) := by kernel_rfl
theorem Tryz.stoodF : Tryz.prog.stoodInHeld 25 = false := by kernel_rfl
theorem put0 (a : Act) (v : Value) : a.put none v = a := rfl
theorem put1 (l : Array Value) (d : List Deferred) (i : Nat) (v : Value) : Act.put ⟨l, d⟩ (some i) v = ⟨l.setIfInBounds i v, d⟩ := rfl
theorem put2 (l : List Value) (i : Nat) (v : Value) : l.toArray.setIfInBounds i v = (l.set i v).toArray := by simp
theorem put3 (a b : Value) (l : List Value) : (a :: l).set 0 b = b :: l := rfl
theorem put4 (a b : Value) (l : List Value) (n : Nat) : (a :: l).set (n + 1) b = a :: l.set n b := rfl
abbrev Row := Nat × Array Value × Nat
structure St (L : World → Prop) (w0 : World) (rows : List Row) (w : World) : Prop where
 base : L w0
 keeps : ∀ w1 w2 : World, L w1 → Below w1.heap.size w1 w2 → L w2
 below : Below w0.heap.size w0 w
 has : ∀ x ∈ rows, w.heap[x.1]? = some (.cells x.2.1 x.2.2 (0, 0)) ∧ w0.heap.size ≤ x.1
 apart : (rows.map (·.1)).Nodup
inductive RowAt (g : Nat) (cs : Array Value) (T : Nat) : List Row → Prop
 | head {r} : RowAt g cs T ((g, cs, T) :: r)
 | tail {x r} : RowAt g cs T r → RowAt g cs T (x :: r)
inductive RowSet (g : Nat) (cs new : Array Value) (T : Nat) : List Row → List Row → Prop
 | head {r} : RowSet g cs new T ((g, cs, T) :: r) ((g, new, T) :: r)
 | tail {x r r'} : RowSet g cs new T r r' → RowSet g cs new T (x :: r) (x :: r')
theorem RowAt.mem {g cs T r} (h : RowAt g cs T r) : (g, cs, T) ∈ r := by
 induction h with
 | head => exact .head _
 | tail _ ih => exact .tail _ ih
theorem RowSet.mem {g cs new T r r'} (h : RowSet g cs new T r r') : (g, cs, T) ∈ r := by
 induction h with
 | head => exact .head _
 | tail _ ih => exact .tail _ ih
theorem RowSet.keys {g cs new T r r'} (h : RowSet g cs new T r r') : r'.map (·.1) = r.map (·.1) := by
 induction h with
 | head => rfl
 | tail _ ih => simp [ih]
theorem RowSet.cases {g cs new T r r'} (h : RowSet g cs new T r r') (hn : (r.map (·.1)).Nodup) : ∀ x ∈ r', x = (g, new, T) ∨ (x ∈ r ∧ x.1 ≠ g) := by
 induction h with
 | @head r =>
   intro x hx
   rcases List.mem_cons.1 hx with rfl | hx
   ·exact .inl rfl
   ·refine .inr ⟨.tail _ hx, ?_⟩
    intro e
    simp only [List.map_cons, List.nodup_cons] at hn
    exact hn.1 (by rw [← e]; exact List.mem_map.2 ⟨x, hx, rfl⟩)
 | @tail y r r' hs ih =>
   intro x hx
   simp only [List.map_cons, List.nodup_cons] at hn
   rcases List.mem_cons.1 hx with rfl | hx
   ·refine .inr ⟨.head _, ?_⟩
    intro e
    exact hn.1 (by rw [e]; exact List.mem_map.2 ⟨_, hs.mem, rfl⟩)
   ·rcases ih hn.2 x hx with h | ⟨h1, h2⟩
    ·exact .inl h
    ·exact .inr ⟨.tail _ h1, h2⟩
section
variable {L : World → Prop} {w0 w : World} {rows : List Row}
theorem St.start (hl : L w) (hk : ∀ w1 w2 : World, L w1 → Below w1.heap.size w1 w2 → L w2) : St L w [] w := ⟨hl, hk, Below.refl _ _, by simp, by simp⟩
theorem St.laid (h : St L w0 rows w) : L w := h.keeps _ _ h.base h.below
theorem St.row (h : St L w0 rows w) {g cs T} (m : RowAt g cs T rows) : w.heap[g]? = some (.cells cs T (0, 0)) := (h.has _ m.mem).1
theorem St.mono (h : St L w0 rows w) {w' : World} (hb : Below w.heap.size w w') : St L w0 rows w' :=
 ⟨h.base, h.keeps, below_two h.below hb, fun x hx => ⟨blk_below2 hb (h.has x hx).1, (h.has x hx).2⟩, h.apart⟩
theorem St.drew (h : St L w0 rows w) : St L w0 rows w.drew := h.mono (Below.refl _ _).drew
theorem St.alloc (h : St L w0 rows w) (cs : Array Value) (T : Nat) : St L w0 ((w.heap.size, cs, T) :: rows) (w.alloc (.cells cs T)) := by
 have h' := h.mono ((Below.refl _ w).alloc (Nat.le_refl _) (.cells cs T))
 refine ⟨h'.base, h'.keeps, h'.below, ?_, ?_⟩
 ·intro x hx
  rcases List.mem_cons.1 hx with rfl | hx
  ·exact ⟨heap_alloc_new w _, h.below.size⟩
  ·exact h'.has x hx
 ·simp only [List.map_cons, List.nodup_cons]
  refine ⟨?_, h.apart⟩
  intro hm
  obtain ⟨x, hx, e⟩ := List.mem_map.1 hm
  have := (Array.getElem?_eq_some_iff.1 (h.has x hx).1).1
  omega
theorem St.set (h : St L w0 rows w) {g cs new T rows'} (m : RowSet g cs new T rows rows') : St L w0 rows' (w.setRow g new) := by
 obtain ⟨hg, ho⟩ := h.has _ m.mem
 refine ⟨h.base, h.keeps, below_setRow h.below ho new, ?_, by rw [m.keys]; exact h.apart⟩
 intro x hx
 rcases m.cases h.apart x hx with rfl | ⟨h1, h2⟩
 ·exact ⟨row_set hg, ho⟩
 ·exact ⟨(setRow_other w g x.1 new h2).trans (h.has x h1).1, (h.has x h1).2⟩
theorem St.call (h : St L w0 rows w) {k : Nat} {args : Array Value} {v : Value} (hc : L w → Calls Tryz.prog k args w fun e w' => e = .returned v ∧ Below w.heap.size w w') : Calls Tryz.prog k args w fun e w' => e = .returned v ∧ St L w0 rows w' :=
 (hc h.laid).mono fun _ _ ⟨he, hb⟩ => ⟨he, h.mono hb⟩
theorem St.still (h : St L w0 rows w) {k : Nat} {args : Array Value} {v : Value} (hc : L w → Calls Tryz.prog k args w fun e w' => e = .returned v ∧ w = w') : Calls Tryz.prog k args w fun e w' => e = .returned v ∧ St L w0 rows w' :=
 (hc h.laid).mono fun _ _ ⟨he, hb⟩ => ⟨he, hb ▸ h⟩
theorem St.callE (h : St L w0 rows w) {k : Nat} {args : Array Value} {v v' : Value} (hc : L w → Calls Tryz.prog k args w fun e w' => e = .returned v ∧ Below w.heap.size w w') (hv : v = v') : Calls Tryz.prog k args w fun e w' => e = .returned v' ∧ St L w0 rows w' := hv ▸ h.call hc
theorem St.stillE (h : St L w0 rows w) {k : Nat} {args : Array Value} {v v' : Value} (hc : L w → Calls Tryz.prog k args w fun e w' => e = .returned v ∧ w = w') (hv : v = v') : Calls Tryz.prog k args w fun e w' => e = .returned v' ∧ St L w0 rows w' := hv ▸ h.still hc
variable {ops : Array Oper} {rest : List Oper} {o : Oper} {a : Act} {Q : Exit → Act → World → Prop}
theorem wpList_ask {b : Bool} (j : Nat) (want : Bool) (hg : o.guard = some (j, want)) (hy : yielded ops a.tmps j = some b)
 (h1 : b = true → wpList Tryz.prog ops Q (o :: rest) a w) (h2 : b = false → wpList Tryz.prog ops Q (o :: rest) a w) : wpList Tryz.prog ops Q (o :: rest) a w := by
 cases b
 ·exact h2 rfl
 ·exact h1 rfl
theorem wpList_here (h : wpList Tryz.prog ops Q (o :: rest) a w) : wpList Tryz.prog ops Q (o :: rest) a w := h
variable {dst : Option Tmp} {ty : TypeId} {pos : String} {af : Array Edge} {gd : Option (Nat × Bool)}
theorem at_box {T : Nat} {x : Operand} (h : wpList Tryz.prog ops Q ((⟨dst, .box T x, ty, pos, af, gd⟩ : Oper) :: rest) a w) : wpList Tryz.prog ops Q ((⟨dst, .box T x, ty, pos, af, gd⟩ : Oper) :: rest) a w := h
theorem at_alloc {T : Nat} (h : wpList Tryz.prog ops Q ((⟨dst, .alloc T, ty, pos, af, gd⟩ : Oper) :: rest) a w) : wpList Tryz.prog ops Q ((⟨dst, .alloc T, ty, pos, af, gd⟩ : Oper) :: rest) a w := h
theorem at_build {T : Nat} {ps : Array (Nat × Operand)} (h : wpList Tryz.prog ops Q ((⟨dst, .build T ps, ty, pos, af, gd⟩ : Oper) :: rest) a w) : wpList Tryz.prog ops Q ((⟨dst, .build T ps, ty, pos, af, gd⟩ : Oper) :: rest) a w := h
theorem at_load {T : Nat} {x : Operand} (h : wpList Tryz.prog ops Q ((⟨dst, .load T x, ty, pos, af, gd⟩ : Oper) :: rest) a w) : wpList Tryz.prog ops Q ((⟨dst, .load T x, ty, pos, af, gd⟩ : Oper) :: rest) a w := h
theorem at_store {T : Nat} {x y : Operand} (h : wpList Tryz.prog ops Q ((⟨dst, .store T x y, ty, pos, af, gd⟩ : Oper) :: rest) a w) : wpList Tryz.prog ops Q ((⟨dst, .store T x y, ty, pos, af, gd⟩ : Oper) :: rest) a w := h
theorem at_guard {op : Op} {g : Nat × Bool} (h : wpList Tryz.prog ops Q ((⟨dst, op, ty, pos, af, some g⟩ : Oper) :: rest) a w) : wpList Tryz.prog ops Q ((⟨dst, op, ty, pos, af, some g⟩ : Oper) :: rest) a w := h
theorem wp_cond_here {x : Operand} {c d : Code} (h : (Code.cond x c d).wp Tryz.prog Q a w) : (Code.cond x c d).wp Tryz.prog Q a w := h
theorem wpList_pass (hw : Region.wanted o (yielded ops a.tmps) = false) (h : wpList Tryz.prog ops Q rest (a.put o.dst undef) w) : wpList Tryz.prog ops Q (o :: rest) a w := by
 rw [wpList_skip_eq hw]; exact h
theorem wpList_wanted (hw : Region.wanted o (yielded ops a.tmps) = true) (h : wpList Tryz.prog ops Q (o :: rest) a w) : wpList Tryz.prog ops Q (o :: rest) a w := h
theorem wpList_one (hw : Region.wanted o (yielded ops a.tmps) = true) (h : ∀ K : Act → World → Prop, (∀ a w, wpList Tryz.prog ops Q rest a w → K a w) → o.wp Tryz.prog a w K Q) : wpList Tryz.prog ops Q (o :: rest) a w := by
 unfold wpList
 rw [if_pos hw]
 exact .inl (h _ fun _ _ h => h)
theorem wpList_box_agg {T : Nat} {x : Operand} (ho : o.op = .box T x) (hS : St L w0 rows w) (hw : Region.wanted o (yielded ops a.tmps) = true) {cs : Array Value} (hx : a.eval x = .agg cs)
 (h : ∀ g w', St L w0 ((g, cs, T) :: rows) w' → wpList Tryz.prog ops Q rest (a.put o.dst (.pointer (some ⟨g, 0, none⟩))) w') : wpList Tryz.prog ops Q (o :: rest) a w :=
 wpList_one hw fun K hK => by
  unfold Oper.wp execOp
  simp only [ho, hx, Instr.box, newVar, newRow, Value.cells]
  exact hK _ _ (h _ _ (hS.alloc cs T))
theorem wpList_box_one {T : Nat} {x : Operand} (ho : o.op = .box T x) (hS : St L w0 rows w) (hw : Region.wanted o (yielded ops a.tmps) = true) {v : Value} (hx : a.eval x = v) (hv : v.oneCell' = true)
 (h : ∀ g w', St L w0 ((g, #[v], T) :: rows) w' → wpList Tryz.prog ops Q rest (a.put o.dst (.pointer (some ⟨g, 0, none⟩))) w') : wpList Tryz.prog ops Q (o :: rest) a w :=
 wpList_one hw fun K hK => by
  have hc : v.cells = #[v] := by cases v <;> first | rfl | simp [Value.oneCell'] at hv
  unfold Oper.wp execOp
  simp only [ho, hx, Instr.box, newVar, newRow, hc]
  exact hK _ _ (h _ _ (hS.alloc #[v] T))
theorem wpList_new (T : Nat) (ho : o.op = .alloc T) (hS : St L w0 rows w) (hw : Region.wanted o (yielded ops a.tmps) = true) (cs : Array Value) (hz : ∀ w, (zeroValue T).run Tryz.prog w = .ok (.agg cs) w)
 (h : ∀ g w', St L w0 ((g, cs, T) :: rows) w' → wpList Tryz.prog ops Q rest (a.put o.dst (.pointer (some ⟨g, 0, none⟩))) w') : wpList Tryz.prog ops Q (o :: rest) a w :=
 wpList_one hw fun K hK => by
  unfold Oper.wp execOp
  simp only [ho, Instr.alloc, newVar, newRow, Sem.run_bind, hz, Result.andThen_ok, Value.cells]
  exact hK _ _ (h _ _ (hS.alloc cs T))
theorem wpList_bld {T : Nat} {l : List (Nat × Operand)} (ho : o.op = .build T l.toArray) (hw : Region.wanted o (yielded ops a.tmps) = true) {ps : List (Nat × Value)} (hp : l.map (fun p => (p.1, a.eval p.2)) = ps) {v : Value} (hv : ∀ w, (Instr.build T ps.toArray).run Tryz.prog w = .ok v w)
 (h : wpList Tryz.prog ops Q rest (a.put o.dst v) w) : wpList Tryz.prog ops Q (o :: rest) a w :=
 wpList_one hw fun K hK => by
  unfold Oper.wp execOp
  have e : (l.toArray.map fun p => (p.1, a.eval p.2)) = ps.toArray := by rw [List.map_toArray, hp]
  simp only [ho, Sem.run_bind, e, hv, Sem.run_pure, Result.andThen_ok]
  exact hK _ _ h
theorem wpList_ld_row (T : Nat) {x : Operand} (ho : o.op = .load T x) (hS : St L w0 rows w) (hw : Region.wanted o (yielded ops a.tmps) = true) {g : Nat} (hx : a.eval x = .pointer (some ⟨g, 0, none⟩)) {cs : Array Value} {T' : Nat} (hm : RowAt g cs T' rows)
 {d : TypeDesc} (hu : Tryz.prog.underlying T = some d) (hd : d.isRow = true) (hi : (Tryz.prog.info? T).map (·.size) = some cs.size)
 (h : wpList Tryz.prog ops Q rest (a.put o.dst (.agg cs)) w) : wpList Tryz.prog ops Q (o :: rest) a w :=
 wpList_load_part hw T x ho g 0 hx T' cs cs (0, 0) d (hS.row hm) (fun j v hj => by simpa using hj) hu hd hi h
theorem wpList_ld_part (T : Nat) {x : Operand} (ho : o.op = .load T x) (hS : St L w0 rows w) (hw : Region.wanted o (yielded ops a.tmps) = true) {g : Nat} (off : Nat) (hx : a.eval x = .pointer (some ⟨g, off, none⟩)) {cs ds : Array Value} {T' : Nat} (hm : RowAt g cs T' rows)
 (hp : ∀ j v, ds[j]? = some v → cs[off + j]? = some v) {d : TypeDesc} (hu : Tryz.prog.underlying T = some d) (hd : d.isRow = true) (hi : (Tryz.prog.info? T).map (·.size) = some ds.size)
 (h : wpList Tryz.prog ops Q rest (a.put o.dst (.agg ds)) w) : wpList Tryz.prog ops Q (o :: rest) a w :=
 wpList_load_part hw T x ho g off hx T' cs ds (0, 0) d (hS.row hm) hp hu hd hi h
theorem run_ld_cell (hS : St L w0 rows w) {T : Nat} {x : Operand} (ho : o.op = .load T x) {g off : Nat} (hx : a.eval x = .pointer (some ⟨g, off, none⟩)) {cs : Array Value} {T' : Nat} (hm : RowAt g cs T' rows)
 (hT : ∃ d, Tryz.prog.underlying T = some d ∧ d.isRow = false) {v : Value} (hv : cs[off]? = some v) : (execOp a.eval o).run Tryz.prog w = .ok (.value v) w := by
 obtain ⟨d, hu, hd⟩ := hT
 have hagg : (isAgg T).run Tryz.prog w = .ok false w := by
  unfold isAgg
  rw [Sem.run_bind, run_underlying hu w]
  cases d <;> simp_all
 have hc : w.cell? ⟨g, off, none⟩ = some v := (cell_of_row w g off cs T' (0, 0) (hS.row hm)).trans hv
 have hl : (loadVar T ⟨g, off, none⟩).run Tryz.prog w = .ok v w := by simp [loadVar, Sem.run_bind, hagg, hc]
 unfold execOp
 simp only [ho, hx, Instr.loadAt, Instr.sureAddr, Sem.run_bind, Sem.run_pure, Result.andThen_ok, hl]
theorem run_ld_part (hS : St L w0 rows w) {T : Nat} {x : Operand} (ho : o.op = .load T x) {g off : Nat} (hx : a.eval x = .pointer (some ⟨g, off, none⟩)) {cs ds : Array Value} {T' : Nat} (hm : RowAt g cs T' rows)
 (hp : ∀ j v, ds[j]? = some v → cs[off + j]? = some v) {d : TypeDesc} (hu : Tryz.prog.underlying T = some d) (hd : d.isRow = true) (hi : (Tryz.prog.info? T).map (·.size) = some ds.size) : (execOp a.eval o).run Tryz.prog w = .ok (.value (.agg ds)) w := by
 have hr : w.rangeAt g off ds.toList := fun j v hv => by
  rw [cell_of_row w g (off + j) cs T' (0, 0) (hS.row hm)]
  exact hp j v (by simpa using hv)
 have hl := run_loadVar_mid (P := Tryz.prog) w g off T ds.toList d hr hu hd (by simpa using hi)
 unfold execOp
 simp only [ho, hx, Instr.loadAt, Instr.sureAddr, Sem.run_bind, Sem.run_pure, Result.andThen_ok, hl, Array.toArray_toList]
theorem wpList_ld_cell {T : Nat} {x : Operand} (ho : o.op = .load T x) (hS : St L w0 rows w) (hw : Region.wanted o (yielded ops a.tmps) = true) {g off : Nat} (hx : a.eval x = .pointer (some ⟨g, off, none⟩)) {cs : Array Value} {T' : Nat} (hm : RowAt g cs T' rows)
 (hT : ∃ d, Tryz.prog.underlying T = some d ∧ d.isRow = false) {v : Value} (hv : cs[off]? = some v)
 (h : wpList Tryz.prog ops Q rest (a.put o.dst v) w) : wpList Tryz.prog ops Q (o :: rest) a w :=
 wpList_one hw fun K hK => by
  unfold Oper.wp
  rw [run_ld_cell hS ho hx hm hT hv]
  exact hK _ _ h
theorem store_seg (hS : St L w0 rows w) {T : Nat} {g off : Nat} {cs new : Array Value} {T' : Nat} {rows'} (hm : RowSet g cs new T' rows rows') (v : Value) (hfit : off + v.cells.size ≤ cs.size)
 (hnew : cs.toList.take off ++ v.cells.toList ++ cs.toList.drop (off + v.cells.size) = new.toList) (hi : (Tryz.prog.info? T).map (·.size) = some v.cells.size) (h1 : v.cells.all (·.oneCell') = true) :
 ∃ w', (storeVar T ⟨g, off, none⟩ v).run Tryz.prog w = .ok () w' ∧ St L w0 rows' w' := by
 refine ⟨w.setRow g new, ?_, hS.set hm⟩
 have hst := run_storeCells_at Tryz.prog g off T' v.cells.toList 0 cs w (hS.has _ hm.mem).1 (by simpa using hfit) (fun u hu => (Array.all_eq_true_iff_forall_mem.1 h1) u (by simpa using hu))
 have e : (cs.toList.take (off + 0) ++ v.cells.toList ++ cs.toList.drop (off + 0 + v.cells.toList.length)).toArray = new := by
  rw [Nat.add_zero, Array.length_toList, hnew]
 rw [e] at hst
 cases hq : Tryz.prog.info? T with
 | none => simp [hq] at hi
 | some i =>
   have hs : v.cells.size = i.size := by simp [hq] at hi; omega
   simp [storeVar, sizeOf, typeInfo, hq, hs, hst]
theorem wpList_st {T : Nat} {x y : Operand} (ho : o.op = .store T x y) (hS : St L w0 rows w) (hw : Region.wanted o (yielded ops a.tmps) = true) {g off : Nat} (hx : a.eval x = .pointer (some ⟨g, off, none⟩)) {v : Value} (hy : a.eval y = v)
 {cs new : Array Value} {T' : Nat} {rows'} (hm : RowSet g cs new T' rows rows') (hfit : off + v.cells.size ≤ cs.size)
 (hnew : cs.toList.take off ++ v.cells.toList ++ cs.toList.drop (off + v.cells.size) = new.toList) (hi : (Tryz.prog.info? T).map (·.size) = some v.cells.size) (h1 : v.cells.all (·.oneCell') = true)
 (h : ∀ w', St L w0 rows' w' → wpList Tryz.prog ops Q rest (a.put o.dst undef) w') : wpList Tryz.prog ops Q (o :: rest) a w :=
 wpList_one hw fun K hK => by
  obtain ⟨w', hs, hS'⟩ := store_seg hS hm v hfit hnew hi h1
  unfold Oper.wp execOp
  simp only [ho, hx, hy, Instr.storeAt, Instr.sureAddr, Sem.run_bind, Sem.run_pure, Result.andThen_ok, hs]
  exact hK _ _ (h _ hS')
theorem St.result (hS : St L w0 rows w) {fn : Func} {p : Tmp} {T : Nat} (hf : fn.results = #[.cell p T]) {g : Nat} (hp : a.tmps.getD p undef = .pointer (some ⟨g, 0, none⟩)) {cs : Array Value} {T' : Nat} (hm : RowAt g cs T' rows)
 {d : TypeDesc} (hu : Tryz.prog.underlying T = some d) (hd : d.isRow = true) (hi : (Tryz.prog.info? T).map (·.size) = some cs.size) (hdef : a.defers = []) {R : Ending → World → Prop} (hR : Below w0.heap.size w0 w → R (.returned (.agg cs)) w) : bodyPost Tryz.prog fn R .ret a w :=
 bodyPost_ret (results_cell_row hf a.tmps w g T' cs (0, 0) d hp (hS.row hm) hu (by cases d <;> first | rfl | exact hd) hi) hdef (hR hS.below)
theorem ret_cells {X : Type} {f : X → Array Value} {x y : X} (h : x = y) : Ending.returned (.agg (f x)) = .returned (.agg (f y)) := by rw [h]
end
end Go.Proofs.YtdnnbfbhifelkaaGreatDoor
namespace Go.Proofs.YtdnnbfbhifelkaaGreatDoor
theorem Tryz.follows_mixed : Tryz.prog.follows .mixedOrders = true := by kernel_rfl
section
variable {P : Program} {ops : Array Oper} {Q : Exit → Act → World → Prop} {md : Region.Mode} {S : World → Prop}
def Yld (P : Program) (S : World → Prop) (v : Value) : Result Next → Prop
 | .ok (.value u) w' => u = v ∧ S w'
 | .ok .skip w' => v = undef ∧ S w'
 | .ok (.enter f args) w' => Calls P f args w' fun e w'' => e = .returned v ∧ S w''
 | _ => False
theorem Yld.upon {o : Oper} {a : Act} {v : Value} {r : Result Next} {next : Act → World → Prop} (h : Yld P S v r) (hn : ∀ w', S w' → next (a.put o.dst v) w') : o.upon P a next Q r := by
 cases r with
 | halt x w' => exact h.elim
 | ok n w' =>
   cases n with
   | value u => obtain ⟨rfl, hs⟩ := h; exact hn _ hs
   | skip => obtain ⟨rfl, hs⟩ := h; exact hn _ hs
   | enter f args =>
     refine Calls.mono (show Calls P f args w' _ from h) fun e w'' he => ?_
     obtain ⟨rfl, hs⟩ := he
     exact hn _ hs
   | _ => exact h.elim
def YSt (P : Program) (ops : Array Oper) (S : World → Prop) (o : Oper) (v : Value) (a : Act) : Prop :=
 (Region.wanted o (yielded ops a.tmps) = true ∧ ∀ w, S w → Yld P S v ((execOp a.eval o).run P w)) ∨ (Region.wanted o (yielded ops a.tmps) = false ∧ v = undef)
theorem YSt.op {i : Nat} {o : Oper} {v : Value} {a : Act} (hi : ops[i]? = some o) (hy : YSt P ops S o v a) {K : Act → World → Prop} {w : World} (hS : S w) (h : ∀ w', S w' → K (a.put o.dst v) w') : wpOp P ops Q i K a w := by
 unfold Go.wpOp
 rw [hi]
 simp only
 rcases hy with ⟨hw, hv⟩ | ⟨hw, rfl⟩
 ·rw [if_pos hw]; exact .inl ((hv w hS).upon h)
 ·rw [if_neg (by rw [hw]; decide)]; exact h w hS
theorem YSt.same {o : Oper} {v : Value} {a a' : Act} (hy : YSt P ops S o v a) (he : execOp a'.eval o = execOp a.eval o) (hw : Region.wanted o (yielded ops a'.tmps) = Region.wanted o (yielded ops a.tmps)) : YSt P ops S o v a' := by
 rcases hy with ⟨h1, h2⟩ | ⟨h1, h2⟩
 ·exact .inl ⟨hw.trans h1, fun w hs => by rw [he]; exact h2 w hs⟩
 ·exact .inr ⟨hw.trans h1, h2⟩
theorem op_ahead {j : Nat} {oi oj : Oper} {v : Value} (hj : ops[j]? = some oj) (hap : oi.apart ops oj = true) (hsi : ∀ cs b, oi.op ≠ .select cs b) (hsj : ∀ cs b, oj.op ≠ .select cs b)
 (hQ : ∀ c a w, Q (.panic c) (a.put oi.dst v) w → Q (.panic c) a w) {K : Act → World → Prop} {a : Act} {w : World} (hy : YSt P ops S oi v a) (h : wpOp P ops Q j K (a.put oi.dst v) w) :
 wpOp P ops Q j (fun a' w' => YSt P ops S oi v a' ∧ K (a'.put oi.dst v) w') a w := by
 obtain ⟨p1, p2, p3⟩ := Oper.apart_spec hap
 have kp : ∀ u, YSt P ops S oi v (a.put oj.dst u) := fun u => hy.same (execOp_put oi hsi a oj.dst u p3) (wanted_put oi a oj.dst u p3)
 have cm : ∀ u, (a.put oi.dst v).put oj.dst u = (a.put oj.dst u).put oi.dst v := fun u => Act.put_comm a v u p2
 have ex : execOp (a.put oi.dst v).eval oj = execOp a.eval oj := execOp_put oj hsj a oi.dst v p1
 unfold wpOp at h ⊢
 rw [hj] at h ⊢
 simp only at h ⊢
 rw [wanted_put oj a oi.dst v p1] at h
 by_cases hw : Region.wanted oj (yielded ops a.tmps) = true
 ·rw [if_pos hw] at h ⊢
  rcases h with h | ⟨h1, h2⟩
  ·left
   unfold Oper.wp at h ⊢
   rw [ex] at h
   revert h
   generalize (execOp a.eval oj).run P w = r
   intro h
   match r, h with
   | .ok (.value u) w', h => exact ⟨kp u, by rw [← cm u]; exact h⟩
   | .ok .skip w', h => exact ⟨kp undef, by rw [← cm undef]; exact h⟩
   | .ok (.defer d) w', h =>
     have h' : K (({ a.put oi.dst v with defers := d :: (a.put oi.dst v).defers } : Act).put oj.dst undef) w' := h
     rw [Act.put_defers] at h'
     have hyd : YSt P ops S oi v ({ a with defers := d :: a.defers } : Act) := hy.same rfl rfl
     refine ⟨hyd.same (execOp_put oi hsi _ oj.dst undef p3) (wanted_put oi _ oj.dst undef p3), ?_⟩
     rw [← Act.put_comm _ v undef p2]; exact h'
   | .ok (.enter f args) w', h =>
     refine Calls.mono (show Calls P f args w' _ from h) fun e w'' he => ?_
     cases e with
     | returned u => exact ⟨kp u, by rw [← cm u]; exact he⟩
     | panicked c => exact hQ _ _ _ he
     | outgrown => exact he
   | .ok (.row row args) w', h => exact Rows.mono (show Rows P row args w' _ from h) fun u w'' he => ⟨kp u, by rw [← cm u]; exact he⟩
   | .halt (.panic u) w', h => exact hQ _ _ _ h
  ·right
   refine ⟨?_, h2⟩
   unfold Oper.asks at h1 ⊢
   rw [ex] at h1; exact h1
 ·rw [if_neg hw] at h ⊢
  exact ⟨kp undef, by rw [← cm undef]; exact h⟩
def wpAnyS (P : Program) (md : Region.Mode) (ops : Array Oper) (Q : Exit → Act → World → Prop) (S : World → Prop) : Nat → Array Bool → Act → Prop
 | 0, listed, a => Region.ready md ops listed = [] ∧ ∀ w, S w → Q .normal a w
 | fuel + 1, listed, a => (Region.ready md ops listed = [] → ∀ w, S w → Q .normal a w) ∧
   ∀ i ∈ Region.ready md ops listed, ∀ w, S w → wpOp P ops Q i (fun a' w' => S w' ∧ wpAnyS P md ops Q S fuel (listed.setIfInBounds i true) a') a w
theorem wpAny_of_S : ∀ (fuel : Nat) (listed : Array Bool) (a : Act) (w : World), S w → wpAnyS P md ops Q S fuel listed a → wpAny P md ops Q fuel listed a w
 | 0, _, _, w, hs, h => ⟨h.1, h.2 w hs⟩
 | fuel + 1, _, _, w, hs, h => ⟨fun e => h.1 e w hs, fun i hi => wpOp_mono (fun a' w' h' => wpAny_of_S fuel _ a' w' h'.1 h'.2) (h.2 i hi w hs)⟩
theorem take_S {i : Nat} {oi : Oper} {v : Value} (hi : ops[i]? = some oi) (hsel : ∀ (j : Nat) (o : Oper) cs b, ops[j]? = some o → o.op ≠ .select cs b) (hQ : ∀ c a w, Q (.panic c) (a.put oi.dst v) w → Q (.panic c) a w) :
 ∀ (fuel : Nat) (listed : Array Bool) (a : Act),
   (∀ j oj, ops[j]? = some oj → j ≠ i → listed.getD j true = false → (∀ e ∈ oj.after, Region.binds md e = true → e.on ≠ i) → oi.apart ops oj = true) →
   i ∈ Region.ready md ops listed → YSt P ops S oi v a → wpAnyS P md ops Q S fuel (listed.setIfInBounds i true) (a.put oi.dst v) → wpAnyS P md ops Q S (fuel + 1) listed a := by
 intro fuel
 induction fuel with
 | zero =>
   intro listed a _ hr hy H
   refine ⟨fun h => (by rw [h] at hr; cases hr), fun j hj w hs => ?_⟩
   by_cases e : j = i
   ·subst e; exact hy.op hi hs fun w' hs' => ⟨hs', H⟩
   ·have := ready_mono hj e
    rw [H.1] at this
    cases this
 | succ fuel ih =>
   intro listed a hfree hr hy H
   refine ⟨fun h => (by rw [h] at hr; cases hr), fun j hj w hs => ?_⟩
   by_cases e : j = i
   ·subst e; exact hy.op hi hs fun w' hs' => ⟨hs', H⟩
   ·obtain ⟨hjn, oj, hoj, haft⟩ := mem_ready.1 hj
    have hno : ∀ x ∈ oj.after, Region.binds md x = true → x.on ≠ i := fun x hx hb hq => by
     have h1 := haft x hx hb
     have h0 := (mem_ready.1 hr).1
     rw [hq] at h1
     rcases Nat.lt_or_ge i listed.size with h' | h'
     ·simp [h'] at h0 h1; rw [h0] at h1; cases h1
     ·simp [Array.getElem?_eq_none h'] at h1
    have h2 := op_ahead hoj (hfree j oj hoj e hjn hno) (fun cs b => hsel i oi cs b hi) (fun cs b => hsel j oj cs b hoj) hQ hy (H.2 j (ready_mono hj e) w hs)
    refine wpOp_mono (fun a' w' h3 => ⟨h3.2.1, ih (listed.setIfInBounds j true) a' ?_ (ready_mono hr (Ne.symm e)) h3.1 ?_⟩) h2
    ·intro k ok hk hki hun hn
     refine hfree k ok hk hki ?_ hn
     by_cases hjk : j = k
     ·subst hjk; exact hjn
     ·rw [getD_set_ne true hjk] at hun; exact hun
    ·rw [Array.setIfInBounds_comm _ _ e]
     exact h3.2.2
def orderly (md : Region.Mode) (ops : Array Oper) : Nat → Nat → Array Bool → Bool
 | 0, _, listed => (Region.ready md ops listed).isEmpty
 | fuel + 1, i, listed => Region.free md ops listed i && ((Region.ready md ops listed).contains i && orderly md ops fuel (i + 1) (listed.setIfInBounds i true))
inductive RunS (P : Program) (ops : Array Oper) (Q : Exit → Act → World → Prop) (S : World → Prop) : List Oper → Act → Prop
 | nil {a} : (∀ w, S w → Q .normal a w) → RunS P ops Q S [] a
 | cons {o rest a} (v : Value) : (∀ c a w, Q (.panic c) (a.put o.dst v) w → Q (.panic c) a w) → YSt P ops S o v a → RunS P ops Q S rest (a.put o.dst v) → RunS P ops Q S (o :: rest) a
theorem any_of_run (hs : Region.noSelect ops = true) : ∀ (l : List Oper) (i : Nat) (listed : Array Bool) (a : Act), (∀ j, l[j]? = ops[i + j]?) → orderly md ops l.length i listed = true → RunS P ops Q S l a → wpAnyS P md ops Q S l.length listed a
 | [], i, listed, a, _, ho, h => by
   cases h with
   | nil h => exact ⟨by simpa [orderly] using ho, h⟩
 | o :: rest, i, listed, a, hl, ho, h => by
   cases h with
   | cons v hQ hy h =>
     simp only [List.length_cons, orderly, Bool.and_eq_true] at ho
     obtain ⟨hf, hr, ho⟩ := ho
     have hi : ops[i]? = some o := by simpa using (hl 0).symm
     have hl' : ∀ j, rest[j]? = ops[i + 1 + j]? := fun j => by have := hl (j + 1); simpa [Nat.add_assoc, Nat.add_comm 1 j] using this
     exact take_S hi (Region.noSelect_spec hs) hQ rest.length listed a (Region.free_spec hi hf) (by simpa using hr) hy (any_of_run hs rest (i + 1) _ _ hl' ho h)
inductive RunT (P : Program) (ops : Array Oper) (Q : Exit → Act → World → Prop) (S : World → Prop) : List Oper → Act → Prop
 | fin {o a} : (∀ w, S w → wpList P ops Q [o] a w) → RunT P ops Q S [o] a
 | cons {o o' rest a} (v : Value) : (∀ c a w, Q (.panic c) (a.put o.dst v) w → Q (.panic c) a w) → YSt P ops S o v a → RunT P ops Q S (o' :: rest) (a.put o.dst v) → RunT P ops Q S (o :: o' :: rest) a
theorem wp_region_S {id : Nat} {a : Act} {w : World} {l : List Oper} (hm : P.follows .mixedOrders = true) (hs : Region.noSelect l.toArray = true) (ho : orderly .any l.toArray l.length 0 (Array.replicate l.length false) = true)
 (hS : S w) (hd : ∀ w, S w → S w.drew) (h : RunS P l.toArray Q S l a) : (Code.region id l.toArray true).wp P Q a w := by
 refine wp_region_any hm (wpAny_of_S _ _ _ _ (hd _ hS) ?_)
 have := any_of_run (md := .any) hs l 0 (Array.replicate l.length false) a (fun j => by simp) ho h
 simpa using this
end
section
variable {L : World → Prop} {w0 w : World} {rows : List Row} {ops : Array Oper} {Q : Exit → Act → World → Prop} {o : Oper} {rest : List Oper} {a : Act}
theorem wp_region_St {id : Nat} {l : List Oper} (hS : St L w0 rows w) (hs : Region.noSelect l.toArray = true) (ho : orderly .any l.toArray l.length 0 (Array.replicate l.length false) = true)
 (h : RunS Tryz.prog l.toArray Q (St L w0 rows) l a) : (Code.region id l.toArray true).wp Tryz.prog Q a w :=
 wp_region_S Tryz.follows_mixed hs ho hS (fun _ h => h.drew) h
theorem runS_here {P : Program} {S : World → Prop} (h : RunS P ops Q S (o :: rest) a) : RunS P ops Q S (o :: rest) a := h
theorem region_here {P : Program} {id : Nat} {l : Array Oper} (h : (Code.region id l true).wp P Q a w) : (Code.region id l true).wp P Q a w := h
variable {dst : Option Tmp} {ty : TypeId} {pos : String} {af : Array Edge} {gd : Option (Nat × Bool)}
theorem rat_load {P : Program} {S : World → Prop} {T : Nat} {x : Operand} (h : RunS P ops Q S ((⟨dst, .load T x, ty, pos, af, gd⟩ : Oper) :: rest) a) : RunS P ops Q S ((⟨dst, .load T x, ty, pos, af, gd⟩ : Oper) :: rest) a := h
theorem rat_call {P : Program} {S : World → Prop} {c : Call} (h : RunS P ops Q S ((⟨dst, .call c, ty, pos, af, gd⟩ : Oper) :: rest) a) : RunS P ops Q S ((⟨dst, .call c, ty, pos, af, gd⟩ : Oper) :: rest) a := h
theorem rat_guard {P : Program} {S : World → Prop} {op : Op} {g : Nat × Bool} (h : RunS P ops Q S ((⟨dst, op, ty, pos, af, some g⟩ : Oper) :: rest) a) : RunS P ops Q S ((⟨dst, op, ty, pos, af, some g⟩ : Oper) :: rest) a := h
theorem runS_end {S : World → Prop} (h : ∀ w, S w → Q .normal a w) : RunS Tryz.prog ops Q S [] a := .nil h
theorem runS_pass {S : World → Prop} (hw : Region.wanted o (yielded ops a.tmps) = false) (hq : ∀ c a w, Q (.panic c) (a.put o.dst undef) w → Q (.panic c) a w) (h : RunS Tryz.prog ops Q S rest (a.put o.dst undef)) : RunS Tryz.prog ops Q S (o :: rest) a :=
 .cons undef hq (.inr ⟨hw, rfl⟩) h
theorem runS_wanted {S : World → Prop} (hw : Region.wanted o (yielded ops a.tmps) = true) (h : RunS Tryz.prog ops Q S (o :: rest) a) : RunS Tryz.prog ops Q S (o :: rest) a := h
theorem runS_ask {S : World → Prop} {b : Bool} (j : Nat) (want : Bool) (hg : o.guard = some (j, want)) (hy : yielded ops a.tmps j = some b)
 (h1 : b = true → RunS Tryz.prog ops Q S (o :: rest) a) (h2 : b = false → RunS Tryz.prog ops Q S (o :: rest) a) : RunS Tryz.prog ops Q S (o :: rest) a := by
 cases b
 ·exact h2 rfl
 ·exact h1 rfl
theorem runS_val {v : Value} (hw : Region.wanted o (yielded ops a.tmps) = true) (hq : ∀ c a w, Q (.panic c) (a.put o.dst v) w → Q (.panic c) a w) (hy : ∀ w, St L w0 rows w → (execOp a.eval o).run Tryz.prog w = .ok (.value v) w)
 (h : RunS Tryz.prog ops Q (St L w0 rows) rest (a.put o.dst v)) : RunS Tryz.prog ops Q (St L w0 rows) (o :: rest) a :=
 .cons v hq (.inl ⟨hw, fun w hS => by rw [hy w hS]; exact ⟨rfl, hS⟩⟩) h
theorem runS_call (k : Nat) {args : Array Value} {v : Value} (hw : Region.wanted o (yielded ops a.tmps) = true) (hq : ∀ c a w, Q (.panic c) (a.put o.dst v) w → Q (.panic c) a w) (hy : ∀ w, (execOp a.eval o).run Tryz.prog w = .ok (.enter k args) w)
 (hc : ∀ w, St L w0 rows w → Calls Tryz.prog k args w fun e w' => e = .returned v ∧ St L w0 rows w') (h : RunS Tryz.prog ops Q (St L w0 rows) rest (a.put o.dst v)) : RunS Tryz.prog ops Q (St L w0 rows) (o :: rest) a :=
 .cons v hq (.inl ⟨hw, fun w hS => by rw [hy w]; exact hc w hS⟩) h
end
end Go.Proofs.YtdnnbfbhifelkaaGreatDoor
namespace Go.Proofs.YtdnnbfbhifelkaaGreatDoor
open Go.ChangeShapes Go.WideShapes Go.RowKit
def foldG (st : Flt → Str → Option Flt) : Flt → List Str → Option Flt
 | f, [] => some f
 | f, x :: r => match st f x with | some f' => foldG st f' r | none => none
theorem foldT_eq (l : List Str) : ∀ f, foldT f l = foldG takeS f l := by
 induction l with
 | nil => intro f; rfl
 | cons x r ih =>
   intro f; rw [foldT, foldG]
   cases takeS f x with
   | none => rfl
   | some g => exact ih g
theorem foldG_append {st : Flt → Str → Option Flt} (l m : List Str) : ∀ f, foldG st f (l ++ m) = (match foldG st f l with | some g => foldG st g m | none => none) := by
 induction l with
 | nil => intro f; rfl
 | cons x r ih =>
   intro f
   rw [List.cons_append, foldG, foldG]
   cases st f x with
   | none => rfl
   | some g => exact ih g
theorem foldG_addW {st : Flt → Str → Option Flt} {f g g' : Flt} {l : List Str} {s : Str} (h : foldG st f l = some g) (h0 : s = [] → g' = g) (h1 : s ≠ [] → st g s = some g') : foldG st f (addW l s) = some g' := by
 unfold addW; split
 ·rename_i e; rw [h0 e]; exact h
 ·rename_i e; rw [foldG_append, h]; simp only [foldG, h1 e]
theorem mod_bit_yes {m k : Nat} (h : m.testBit k = true) : m % 2 ^ (k + 1) = m % 2 ^ k ||| 2 ^ k := by
 apply Nat.eq_of_testBit_eq; intro i
 rw [Nat.testBit_or, Nat.testBit_mod_two_pow, Nat.testBit_mod_two_pow, Nat.testBit_two_pow]
 rcases Nat.lt_trichotomy i k with c | c | c
 ·have a1 : i < k + 1 := by omega
  have a2 : ¬ k = i := by omega
  simp [a1, a2, c]
 ·subst c; simp [h]
 ·have a1 : ¬ i < k + 1 := by omega
  have a2 : ¬ i < k := by omega
  have a3 : ¬ k = i := by omega
  simp [a1, a2, a3]
theorem mod_bit_no {m k : Nat} (h : m.testBit k = false) : m % 2 ^ (k + 1) = m % 2 ^ k := by
 apply Nat.eq_of_testBit_eq; intro i
 rw [Nat.testBit_mod_two_pow, Nat.testBit_mod_two_pow]
 rcases Nat.lt_trichotomy i k with c | c | c
 ·have a1 : i < k + 1 := by omega
  simp [a1, c]
 ·subst c; simp [h]
 ·have a1 : ¬ i < k + 1 := by omega
  have a2 : ¬ i < k := by omega
  simp [a1, a2]
theorem foldl_addW_ne (l m : List Str) (h : ∀ x ∈ m, x ≠ []) : m.foldl addW l = l ++ m := by
 induction m generalizing l with
 | nil => simp
 | cons x r ih =>
   rw [List.foldl_cons, ih _ (fun y hy => h y (List.mem_cons_of_mem _ hy)), addW, if_neg (h x (by simp))]; simp
theorem foldG_mask {st : Flt → Str → Option Flt} {n : Nat} (p : Str) (T : List Str) (set : Nat → Flt) (m : Nat) (hm : m < 2 ^ n) (hn : n ≤ 31)
 (hw : ∀ i, i < n → ∀ x, x < 2 ^ 31 → st (set x) (p ++ wd T i) = some (set (x ||| 2 ^ i))) :
 ∀ k, k ≤ 31 → foldG st (set 0) ((bitsUpto m k).map fun i => p ++ wd T i) = some (set (m % 2 ^ k))
 | 0, _ => by simp [bitsUpto, foldG, Nat.mod_one]
 | k + 1, hk => by
   have ih := foldG_mask p T set m hm hn hw k (by omega)
   cases hb : m.testBit k with
   | false => rw [bitsUpto_no hb, mod_bit_no hb]; exact ih
   | true =>
     have hkn : k < n := by
      rcases Nat.lt_or_ge k n with h' | h'
      ·exact h'
      ·rw [Nat.testBit_lt_two_pow (Nat.lt_of_lt_of_le hm (Nat.pow_le_pow_right (by omega) h'))] at hb; cases hb
     have hlt : m % 2 ^ k < 2 ^ 31 := Nat.lt_of_lt_of_le (Nat.mod_lt _ (Nat.pow_pos (by omega))) (Nat.pow_le_pow_right (by omega) (by omega))
     rw [bitsUpto_yes hb, mod_bit_yes hb, List.map_append, foldG_append, ih]
     simp only [List.map_cons, List.map_nil, foldG, hw k hkn _ hlt]
theorem foldG_addMask {st : Flt → Str → Option Flt} {n : Nat} {f : Flt} {l : List Str} (p : Str) (T : List Str) (set : Nat → Flt) (m : Nat) (hm : m < 2 ^ n) (hn : n ≤ 31) (h : foldG st f l = some (set 0))
 (hne : ∀ i, i < n → p ++ wd T i ≠ [])
 (hw : ∀ i, i < n → ∀ x, x < 2 ^ 31 → st (set x) (p ++ wd T i) = some (set (x ||| 2 ^ i))) :
 foldG st f (addMask l p T m) = some (set m) := by
 have e := foldG_mask p T set m hm hn hw 31 (Nat.le_refl _)
 have hm31 : m % 2 ^ 31 = m := Nat.mod_eq_of_lt (Nat.lt_of_lt_of_le hm (Nat.pow_le_pow_right (by omega) hn))
 rw [hm31] at e
 unfold addMask
 rw [foldl_addW_ne, foldG_append, h]
 ·exact e
 ·intro x hx
  obtain ⟨i, hi, rfl⟩ := List.mem_map.1 hx
  exact hne i (bits_lt hm hi)
theorem or_cast {x i : Nat} (hx : x < 2 ^ 31) (hi : i < 31) : bits .or .i64 (x : Int) ((2 ^ i : Nat) : Int) = ((x ||| 2 ^ i : Nat) : Int) :=
 i64_or_nat _ _ (Nat.lt_of_lt_of_le hx (by decide)) (Nat.lt_of_le_of_lt (Nat.pow_le_pow_right (by omega) (Nat.le_of_lt hi)) (by decide))
section words
variable (a b c d e f g : Int) (s : ByteArray) (k t p q u v y z : Int)
theorem tk_type (i x : Nat) (hi : i < 6) (hx : x < 2 ^ 31) : takeS ⟨a, b, c, (x : Int), e, f, g, s, k, t, p, q, u, v, y, z⟩ ([] ++ wd typeT i) = some ⟨a, b, c, ((x ||| 2 ^ i : Nat) : Int), e, f, g, s, k, t, p, q, u, v, y, z⟩ := by
 rw [← or_cast hx (by omega : i < 31)]
 rcases i with _ | _ | _ | _ | _ | _ | i
 all_goals first | omega | kernel_rfl
theorem tk_ntype (i x : Nat) (hi : i < 6) (hx : x < 2 ^ 31) : takeS ⟨a, b, c, d, (x : Int), f, g, s, k, t, p, q, u, v, y, z⟩ (nonW ++ wd typeT i) = some ⟨a, b, c, d, ((x ||| 2 ^ i : Nat) : Int), f, g, s, k, t, p, q, u, v, y, z⟩ := by
 rw [← or_cast hx (by omega : i < 31)]
 rcases i with _ | _ | _ | _ | _ | _ | i
 all_goals first | omega | kernel_rfl
theorem tk_color (i x : Nat) (hi : i < 5) (hx : x < 2 ^ 31) : takeS ⟨a, b, c, d, e, (x : Int), g, s, k, t, p, q, u, v, y, z⟩ ([] ++ wd colorT i) = some ⟨a, b, c, d, e, ((x ||| 2 ^ i : Nat) : Int), g, s, k, t, p, q, u, v, y, z⟩ := by
 rw [← or_cast hx (by omega : i < 31)]
 rcases i with _ | _ | _ | _ | _ | i
 all_goals first | omega | kernel_rfl
theorem tk_ncolor (i x : Nat) (hi : i < 5) (hx : x < 2 ^ 31) : takeS ⟨a, b, c, d, e, f, (x : Int), s, k, t, p, q, u, v, y, z⟩ (nonW ++ wd colorT i) = some ⟨a, b, c, d, e, f, ((x ||| 2 ^ i : Nat) : Int), s, k, t, p, q, u, v, y, z⟩ := by
 rw [← or_cast hx (by omega : i < 31)]
 rcases i with _ | _ | _ | _ | _ | i
 all_goals first | omega | kernel_rfl
theorem tk_key (i x : Nat) (hi : i < 17) (hx : x < 2 ^ 31) : takeS ⟨a, b, c, d, e, f, g, s, (x : Int), t, p, q, u, v, y, z⟩ (withW ++ wd kwT i) = some ⟨a, b, c, d, e, f, g, s, ((x ||| 2 ^ i : Nat) : Int), t, p, q, u, v, y, z⟩ := by
 rw [← or_cast hx (by omega : i < 31)]
 rcases i with _ | _ | _ | _ | _ | _ | _ | _ | _ | _ | _ | _ | _ | _ | _ | _ | _ | i
 all_goals first | omega | kernel_rfl
theorem tk_zone (i : Nat) (hi : i < 6) (h0 : wd zoneT i ≠ []) : takeS ⟨a, b, c, d, e, f, g, s, k, t, p, q, u, v, y, z⟩ (wd zoneT i) = some ⟨(i : Nat), b, c, d, e, f, g, s, k, t, p, q, u, v, y, z⟩ := by
 rcases i with _ | _ | _ | _ | _ | _ | i
 ·exact absurd rfl h0
 all_goals first | omega | kernel_rfl
theorem tk_who (i : Nat) (hi : i < 3) (h0 : wd whoT i ≠ []) : takeS ⟨a, b, c, d, e, f, g, s, k, t, p, q, u, v, y, z⟩ (wd whoT i) = some ⟨a, (i : Nat), c, d, e, f, g, s, k, t, p, q, u, v, y, z⟩ := by
 rcases i with _ | _ | _ | i
 ·exact absurd rfl h0
 all_goals first | omega | kernel_rfl
theorem tk_self (i : Nat) (hi : i < 3) (h0 : wd selfT i ≠ []) : takeS ⟨a, b, c, d, e, f, g, s, k, t, p, q, u, v, y, z⟩ (wd selfT i) = some ⟨a, b, (i : Nat), d, e, f, g, s, k, t, p, q, u, v, y, z⟩ := by
 rcases i with _ | _ | _ | i
 ·exact absurd rfl h0
 all_goals first | omega | kernel_rfl
theorem tk_tap (i : Nat) (hi : i < 3) (h0 : wd tapT i ≠ []) : takeS ⟨a, b, c, d, e, f, g, s, k, t, p, q, u, v, y, z⟩ (wd tapT i) = some ⟨a, b, c, d, e, f, g, s, k, (i : Nat), p, q, u, v, y, z⟩ := by
 rcases i with _ | _ | _ | i
 ·exact absurd rfl h0
 all_goals first | omega | kernel_rfl
end words
theorem tk_sub (F : Flt) (r : Str) : takeS F (subW ++ r) = some { F with sub := B r } := by
 have h1 : Lib.hasPrefix (subW ++ r) subW = true := by unfold Lib.hasPrefix; simp [List.isPrefixOf, subW]
 have h2 : Lib.trimPrefix (subW ++ r) subW = r := by unfold Lib.trimPrefix; rw [if_pos h1]; simp [subW]
 unfold takeS; rw [if_pos h1, h2]
theorem parseUint_snoc (l : Str) (c : UInt8) : ∀ (a v : Nat), Lib.parseUint10 a l = .ok v → Lib.parseUint10 a (l ++ [c]) = Lib.parseUint10 v [c] := by
 induction l with
 | nil => intro a v h; simp only [Lib.parseUint10] at h; injection h with h; subst h; rfl
 | cons x r ih =>
   intro a v h
   rw [List.cons_append]
   simp only [Lib.parseUint10] at h ⊢
   split at h
   ·rename_i h1; rw [if_pos h1]
    split at h
    ·cases h
    ·rename_i h2; rw [if_neg h2]
     split at h
     ·cases h
     ·rename_i h3; rw [if_neg h3]
      have := ih _ _ h
      simpa only [Lib.parseUint10] using this
   ·cases h
theorem parse_dec : ∀ (u : Nat), u < 10000000 → Lib.parseUint10 0 (Lib.decDigits u) = .ok u := by
 intro u
 induction u using Nat.strongRecOn with
 | _ u ih =>
   intro hu
   by_cases h : u < 10
   ·rw [Lib.decDigits, dif_pos h, Lib.parseUint10, dig_nat h, if_pos (by omega), if_neg (by omega), if_neg (by omega), Lib.parseUint10]
    congr 1; omega
   ·have h1 := ih (u / 10) (by omega) (by omega)
    rw [Lib.decDigits, dif_neg h, parseUint_snoc _ _ _ _ h1, Lib.parseUint10, dig_nat (Nat.mod_lt _ (by omega)), if_pos (by omega), if_neg (by omega), if_neg (by omega), Lib.parseUint10]
    congr 1; omega
theorem atoi_dec (u : Nat) (hu : u < 10000000) : Lib.atoiAll (Lib.decDigits u) = .ok (u : Int) := by
 have h1 := parse_dec u hu
 have h2 := decDigits_mem u
 cases hd : Lib.decDigits u with
 | nil => exact absurd hd (decDigits_ne u)
 | cons x r =>
   rw [hd] at h1
   have hx := h2 x (by rw [hd]; simp)
   have hp : Lib.parseMag (x :: r) = .ok u := by unfold Lib.parseMag; rw [if_neg (by simp)]; exact h1
   have hs : ¬ (x.toNat = 43 ∨ x.toNat = 45) := by omega
   have hs2 : ¬ x.toNat = 45 := by omega
   unfold Lib.atoiAll
   have hs3 : ¬ x.toNat = 43 := by omega
   simp only [hs2, hs3, or_self, not_false_eq_true, true_and, false_and, if_false, hp]
   rw [if_neg (by omega)]
theorem numOf_itoa (n : Nat) (h : n ≤ 1000000) : numOf (Lib.itoa (n : Nat)) = some (n : Int) := by
 rw [numOf_ok (v := (n : Int)) (by rw [Lib.itoa_nonneg]; exact atoi_dec n (by omega)), if_pos ⟨by omega, by omega, rfl⟩]
end Go.Proofs.YtdnnbfbhifelkaaGreatDoor
namespace Go.Proofs.YtdnnbfbhifelkaaGreatDoor
open Go.ChangeShapes Go.WideShapes Go.RowKit
def bh (s : Str) : Bool := byt s 0 == 112 || (byt s 0 == 116 || byt s 0 == 118)
theorem types_head (m : Nat) (h : m < 64) : bh (typesText m) = false := by
 have : ∀ m : Fin 64, bh (typesText m.val) = false := by decide +kernel
 exact this ⟨m, h⟩
theorem colors_head (m : Nat) (h : m < 32) : bh (colorText m) = false := by
 have : ∀ m : Fin 32, bh (colorText m.val) = false := by decide +kernel
 exact this ⟨m, h⟩
theorem pt_none {s : Str} (h : bh s = true) : ptOf s = none := by
 unfold ptOf; split
 ·rfl
 ·split
  ·rename_i h1 h2
   by_cases hb : 1 ≤ orBits (splitOn 43 s) ∧ orBits (splitOn 43 s) ≤ 63
   ·have := types_head _ (Nat.lt_succ_of_le hb.2); rw [h2, h] at this; cases this
   ·unfold typesText at h2; rw [if_neg hb] at h2; rw [← h2] at h; cases h
  ·rfl
theorem pc_none {s : Str} (h : bh s = true) : pcOf s = none := by
 unfold pcOf; rw [List.find?_eq_none]
 intro m hm hc
 have := colors_head m (by simpa using hm)
 rw [eq_of_beq hc, h] at this; cases this
theorem take_bound {F : Flt} {s : Str} (h : bh s = true) (h1 : Lib.hasPrefix s subW = false) (h2 : Lib.hasPrefix s withW = false) (h3 : Lib.hasPrefix s nonW = false) (h4 : simpleS F s = none) (h5 : (s == noneW) = false) : takeS F s = boundS F s := by
 have ht : Lib.trimPrefix s nonW = s := by unfold Lib.trimPrefix; rw [if_neg (by rw [h3]; decide)]
 have hn : s ≠ noneW := by intro e; rw [e] at h5; simp at h5
 have hty : typesS F s = none := by unfold typesS; rw [ht, pt_none h, pc_none h]; simp [hn]
 unfold takeS; rw [if_neg (by rw [h1]; decide), if_neg (by rw [h2]; decide), h4, hty]
theorem bound_go (F : Flt) (s : Str) (at_ : Nat) (r nm nm2 : Str) (k n : Nat) (G : Flt) (h1 : Lib.indexByte s 61 = ((at_ : Nat) : Int)) (h0 : 1 ≤ at_) (h2 : s.drop (at_ + 1) = r) (h3 : s.take at_ = nm) (h4 : boundHead nm = (k, nm2)) (h5 : numOf r = some (n : Int))
 (h6 : setBound F nm2 (k : Nat) (n : Nat) = some G) : boundS F s = some G := by
 unfold boundS
 have e : (Lib.indexByte s 61).toNat = at_ := by rw [h1]; omega
 rw [e, h2, h3, h4, h5, if_neg (by rw [h1]; omega)]
 exact h6
section words
variable (a b c d e f g : Int) (s : ByteArray) (k t p q u v y z : Int)
theorem tk_power (i n : Nat) (hi : i < 4) (h0 : i ≠ 0) (hn : n ≤ 1000000) : takeS ⟨a, b, c, d, e, f, g, s, k, t, p, q, u, v, y, z⟩ (powerW ++ wd signT i ++ Lib.itoa n) = some ⟨a, b, c, d, e, f, g, s, k, t, (i : Nat), (n : Nat), u, v, y, z⟩ := by
 have hno := numOf_itoa n hn
 generalize Lib.itoa (n : Nat) = r at *
 rcases i with _ | _ | _ | _ | i
 ·exact absurd rfl h0
 ·exact (take_bound rfl rfl rfl rfl rfl rfl).trans (bound_go _ _ 6 r [112, 111, 119, 101, 114, 62] powerW 1 n _ rfl (by decide) rfl rfl rfl hno rfl)
 ·exact (take_bound rfl rfl rfl rfl rfl rfl).trans (bound_go _ _ 6 r [112, 111, 119, 101, 114, 60] powerW 2 n _ rfl (by decide) rfl rfl rfl hno rfl)
 ·exact (take_bound rfl rfl rfl rfl rfl rfl).trans (bound_go _ _ 5 r [112, 111, 119, 101, 114] powerW 3 n _ rfl (by decide) rfl rfl rfl hno rfl)
 ·omega
theorem tk_tough (i n : Nat) (hi : i < 4) (h0 : i ≠ 0) (hn : n ≤ 1000000) : takeS ⟨a, b, c, d, e, f, g, s, k, t, p, q, u, v, y, z⟩ (toughW ++ wd signT i ++ Lib.itoa n) = some ⟨a, b, c, d, e, f, g, s, k, t, p, q, (i : Nat), (n : Nat), y, z⟩ := by
 have hno := numOf_itoa n hn
 generalize Lib.itoa (n : Nat) = r at *
 rcases i with _ | _ | _ | _ | i
 ·exact absurd rfl h0
 ·exact (take_bound rfl rfl rfl rfl rfl rfl).trans (bound_go _ _ 6 r [116, 111, 117, 103, 104, 62] toughW 1 n _ rfl (by decide) rfl rfl rfl hno rfl)
 ·exact (take_bound rfl rfl rfl rfl rfl rfl).trans (bound_go _ _ 6 r [116, 111, 117, 103, 104, 60] toughW 2 n _ rfl (by decide) rfl rfl rfl hno rfl)
 ·exact (take_bound rfl rfl rfl rfl rfl rfl).trans (bound_go _ _ 5 r [116, 111, 117, 103, 104] toughW 3 n _ rfl (by decide) rfl rfl rfl hno rfl)
 ·omega
theorem tk_value (i n : Nat) (hi : i < 4) (h0 : i ≠ 0) (hn : n ≤ 1000000) : takeS ⟨a, b, c, d, e, f, g, s, k, t, p, q, u, v, y, z⟩ (valueW ++ wd signT i ++ Lib.itoa n) = some ⟨a, b, c, d, e, f, g, s, k, t, p, q, u, v, (i : Nat), (n : Nat)⟩ := by
 have hno := numOf_itoa n hn
 generalize Lib.itoa (n : Nat) = r at *
 rcases i with _ | _ | _ | _ | i
 ·exact absurd rfl h0
 ·exact (take_bound rfl rfl rfl rfl rfl rfl).trans (bound_go _ _ 6 r [118, 97, 108, 117, 101, 62] valueW 1 n _ rfl (by decide) rfl rfl rfl hno rfl)
 ·exact (take_bound rfl rfl rfl rfl rfl rfl).trans (bound_go _ _ 6 r [118, 97, 108, 117, 101, 60] valueW 2 n _ rfl (by decide) rfl rfl rfl hno rfl)
 ·exact (take_bound rfl rfl rfl rfl rfl rfl).trans (bound_go _ _ 5 r [118, 97, 108, 117, 101] valueW 3 n _ rfl (by decide) rfl rfl rfl hno rfl)
 ·omega
end words
end Go.Proofs.YtdnnbfbhifelkaaGreatDoor
namespace Go.Proofs.YtdnnbfbhifelkaaGreatDoor
open Go.ChangeShapes Go.WideShapes Go.RowKit
def ofFN (x : FN) : Flt := ⟨x.zone, x.who, x.self, x.types, x.ntypes, x.colors, x.ncolors, B x.sub, x.keys, x.tap, x.pk, x.pn, x.tk, x.tn, x.vk, x.vn⟩
structure FNok (x : FN) : Prop where
 zone : x.zone < 6
 who : x.who < 3
 self : x.self < 3
 tap : x.tap < 3
 keys : x.keys < 2 ^ 17
 types : x.types < 2 ^ 6
 ntypes : x.ntypes < 2 ^ 6
 colors : x.colors < 2 ^ 5
 ncolors : x.ncolors < 2 ^ 5
 sub : x.sub = [] ∨ isSub x.sub = true
 pk : x.pk < 4
 pn : x.pn ≤ 1000000
 p0 : x.pk = 0 → x.pn = 0
 tk : x.tk < 4
 tn : x.tn ≤ 1000000
 t0 : x.tk = 0 → x.tn = 0
 vk : x.vk < 4
 vn : x.vn ≤ 1000000
 v0 : x.vk = 0 → x.vn = 0
theorem zone_nil : ∀ i, i < 6 → wd zoneT i = [] → i = 0 := by decide
theorem who_nil : ∀ i, i < 3 → wd whoT i = [] → i = 0 := by decide
theorem self_nil : ∀ i, i < 3 → wd selfT i = [] → i = 0 := by decide
theorem tap_nil : ∀ i, i < 3 → wd tapT i = [] → i = 0 := by decide
theorem type_ne : ∀ i, i < 6 → [] ++ wd typeT i ≠ [] := by decide
theorem ntype_ne : ∀ i, i < 6 → nonW ++ wd typeT i ≠ [] := by decide
theorem color_ne : ∀ i, i < 5 → [] ++ wd colorT i ≠ [] := by decide
theorem ncolor_ne : ∀ i, i < 5 → nonW ++ wd colorT i ≠ [] := by decide
theorem key_ne : ∀ i, i < 17 → withW ++ wd kwT i ≠ [] := by decide
theorem boundW_nil {name : Str} {k n : Nat} (hn : name ≠ []) (h : boundW name k n = []) : k = 0 := by
 unfold boundW at h; split at h
 ·assumption
 ·simp [hn] at h
theorem boundW_ne {name : Str} {k n : Nat} (h : boundW name k n ≠ []) : k ≠ 0 ∧ boundW name k n = name ++ wd signT k ++ Lib.itoa n := by
 unfold boundW at h ⊢; split at h
 ·exact absurd rfl h
 ·rename_i h0; exact ⟨h0, if_neg h0⟩
structure StepOk (st : Flt → Str → Option Flt) : Prop where
 type : ∀ (a b c e f g : Int) (s : ByteArray) (k t p q u v y z : Int) (i x : Nat), i < 6 → x < 2 ^ 31 → st ⟨a, b, c, (x : Int), e, f, g, s, k, t, p, q, u, v, y, z⟩ ([] ++ wd typeT i) = some ⟨a, b, c, ((x ||| 2 ^ i : Nat) : Int), e, f, g, s, k, t, p, q, u, v, y, z⟩
 ntype : ∀ (a b c d f g : Int) (s : ByteArray) (k t p q u v y z : Int) (i x : Nat), i < 6 → x < 2 ^ 31 → st ⟨a, b, c, d, (x : Int), f, g, s, k, t, p, q, u, v, y, z⟩ (nonW ++ wd typeT i) = some ⟨a, b, c, d, ((x ||| 2 ^ i : Nat) : Int), f, g, s, k, t, p, q, u, v, y, z⟩
 color : ∀ (a b c d e g : Int) (s : ByteArray) (k t p q u v y z : Int) (i x : Nat), i < 5 → x < 2 ^ 31 → st ⟨a, b, c, d, e, (x : Int), g, s, k, t, p, q, u, v, y, z⟩ ([] ++ wd colorT i) = some ⟨a, b, c, d, e, ((x ||| 2 ^ i : Nat) : Int), g, s, k, t, p, q, u, v, y, z⟩
 ncolor : ∀ (a b c d e f : Int) (s : ByteArray) (k t p q u v y z : Int) (i x : Nat), i < 5 → x < 2 ^ 31 → st ⟨a, b, c, d, e, f, (x : Int), s, k, t, p, q, u, v, y, z⟩ (nonW ++ wd colorT i) = some ⟨a, b, c, d, e, f, ((x ||| 2 ^ i : Nat) : Int), s, k, t, p, q, u, v, y, z⟩
 key : ∀ (a b c d e f g : Int) (s : ByteArray) (t p q u v y z : Int) (i x : Nat), i < 17 → x < 2 ^ 31 → st ⟨a, b, c, d, e, f, g, s, (x : Int), t, p, q, u, v, y, z⟩ (withW ++ wd kwT i) = some ⟨a, b, c, d, e, f, g, s, ((x ||| 2 ^ i : Nat) : Int), t, p, q, u, v, y, z⟩
 zone : ∀ (a b c d e f g : Int) (s : ByteArray) (k t p q u v y z : Int) (i : Nat), i < 6 → wd zoneT i ≠ [] → st ⟨a, b, c, d, e, f, g, s, k, t, p, q, u, v, y, z⟩ (wd zoneT i) = some ⟨((i : Nat) : Int), b, c, d, e, f, g, s, k, t, p, q, u, v, y, z⟩
 who : ∀ (a b c d e f g : Int) (s : ByteArray) (k t p q u v y z : Int) (i : Nat), i < 3 → wd whoT i ≠ [] → st ⟨a, b, c, d, e, f, g, s, k, t, p, q, u, v, y, z⟩ (wd whoT i) = some ⟨a, ((i : Nat) : Int), c, d, e, f, g, s, k, t, p, q, u, v, y, z⟩
 self : ∀ (a b c d e f g : Int) (s : ByteArray) (k t p q u v y z : Int) (i : Nat), i < 3 → wd selfT i ≠ [] → st ⟨a, b, c, d, e, f, g, s, k, t, p, q, u, v, y, z⟩ (wd selfT i) = some ⟨a, b, ((i : Nat) : Int), d, e, f, g, s, k, t, p, q, u, v, y, z⟩
 tap : ∀ (a b c d e f g : Int) (s : ByteArray) (k t p q u v y z : Int) (i : Nat), i < 3 → wd tapT i ≠ [] → st ⟨a, b, c, d, e, f, g, s, k, t, p, q, u, v, y, z⟩ (wd tapT i) = some ⟨a, b, c, d, e, f, g, s, k, ((i : Nat) : Int), p, q, u, v, y, z⟩
 sub : ∀ (F : Flt) (r : Str), st F (subW ++ r) = some { F with sub := B r }
 power : ∀ (a b c d e f g : Int) (s : ByteArray) (k t p q u v y z : Int) (i n : Nat), i < 4 → i ≠ 0 → n ≤ 1000000 → st ⟨a, b, c, d, e, f, g, s, k, t, p, q, u, v, y, z⟩ (powerW ++ wd signT i ++ Lib.itoa n) = some ⟨a, b, c, d, e, f, g, s, k, t, ((i : Nat) : Int), ((n : Nat) : Int), u, v, y, z⟩
 tough : ∀ (a b c d e f g : Int) (s : ByteArray) (k t p q u v y z : Int) (i n : Nat), i < 4 → i ≠ 0 → n ≤ 1000000 → st ⟨a, b, c, d, e, f, g, s, k, t, p, q, u, v, y, z⟩ (toughW ++ wd signT i ++ Lib.itoa n) = some ⟨a, b, c, d, e, f, g, s, k, t, p, q, ((i : Nat) : Int), ((n : Nat) : Int), y, z⟩
 value : ∀ (a b c d e f g : Int) (s : ByteArray) (k t p q u v y z : Int) (i n : Nat), i < 4 → i ≠ 0 → n ≤ 1000000 → st ⟨a, b, c, d, e, f, g, s, k, t, p, q, u, v, y, z⟩ (valueW ++ wd signT i ++ Lib.itoa n) = some ⟨a, b, c, d, e, f, g, s, k, t, p, q, u, v, ((i : Nat) : Int), ((n : Nat) : Int)⟩
theorem fold_gn (st : Flt → Str → Option Flt) (o : StepOk st) (x : FN) (h : FNok x) : foldG st zeroF (fltWords x) = some (ofFN x) := by
 obtain ⟨zone, who, self, types, ntypes, colors, ncolors, sub, keys, tap, pk, pn, tk, tn, vk, vn⟩ := x
 have e0 : foldG st zeroF [] = some ⟨0, 0, 0, 0, 0, 0, 0, ⟨#[]⟩, 0, 0, 0, 0, 0, 0, 0, 0⟩ := rfl
 have e1 := foldG_addW (g' := ⟨zone, 0, 0, 0, 0, 0, 0, ⟨#[]⟩, 0, 0, 0, 0, 0, 0, 0, 0⟩) (s := wd zoneT zone) e0 (fun e => by have e0 := zone_nil _ h.zone e; simp only at e0; subst e0; rfl) (fun e => o.zone _ _ _ _ _ _ _ _ _ _ _ _ _ _ _ _ _ h.zone e)
 have e2 := foldG_addW (g' := ⟨zone, who, 0, 0, 0, 0, 0, ⟨#[]⟩, 0, 0, 0, 0, 0, 0, 0, 0⟩) (s := wd whoT who) e1 (fun e => by have e0 := who_nil _ h.who e; simp only at e0; subst e0; rfl) (fun e => o.who _ _ _ _ _ _ _ _ _ _ _ _ _ _ _ _ _ h.who e)
 have e3 := foldG_addW (g' := ⟨zone, who, self, 0, 0, 0, 0, ⟨#[]⟩, 0, 0, 0, 0, 0, 0, 0, 0⟩) (s := wd selfT self) e2 (fun e => by have e0 := self_nil _ h.self e; simp only at e0; subst e0; rfl) (fun e => o.self _ _ _ _ _ _ _ _ _ _ _ _ _ _ _ _ _ h.self e)
 have e4 := foldG_addMask [] typeT (fun m => ⟨zone, who, self, (m : Nat), 0, 0, 0, ⟨#[]⟩, 0, 0, 0, 0, 0, 0, 0, 0⟩) types h.types (by decide) e3 type_ne (fun i hi x hx => o.type _ _ _ _ _ _ _ _ _ _ _ _ _ _ _ i x hi hx)
 have e5 := foldG_addMask nonW typeT (fun m => ⟨zone, who, self, types, (m : Nat), 0, 0, ⟨#[]⟩, 0, 0, 0, 0, 0, 0, 0, 0⟩) ntypes h.ntypes (by decide) e4 ntype_ne (fun i hi x hx => o.ntype _ _ _ _ _ _ _ _ _ _ _ _ _ _ _ i x hi hx)
 have e6 := foldG_addMask [] colorT (fun m => ⟨zone, who, self, types, ntypes, (m : Nat), 0, ⟨#[]⟩, 0, 0, 0, 0, 0, 0, 0, 0⟩) colors h.colors (by decide) e5 color_ne (fun i hi x hx => o.color _ _ _ _ _ _ _ _ _ _ _ _ _ _ _ i x hi hx)
 have e7 := foldG_addMask nonW colorT (fun m => ⟨zone, who, self, types, ntypes, colors, (m : Nat), ⟨#[]⟩, 0, 0, 0, 0, 0, 0, 0, 0⟩) ncolors h.ncolors (by decide) e6 ncolor_ne (fun i hi x hx => o.ncolor _ _ _ _ _ _ _ _ _ _ _ _ _ _ _ i x hi hx)
 have e8 : ∀ l, foldG st zeroF l = some ⟨zone, who, self, types, ntypes, colors, ncolors, B sub, 0, 0, 0, 0, 0, 0, 0, 0⟩ → foldG st zeroF (addW (addW (addW (addW (addMask l withW kwT keys) (wd tapT tap)) (boundW powerW pk pn)) (boundW toughW tk tn)) (boundW valueW vk vn)) = some ⟨zone, who, self, types, ntypes, colors, ncolors, B sub, keys, tap, pk, pn, tk, tn, vk, vn⟩ := by
  intro l el
  have f1 := foldG_addMask withW kwT (fun m => ⟨zone, who, self, types, ntypes, colors, ncolors, B sub, (m : Nat), 0, 0, 0, 0, 0, 0, 0⟩) keys h.keys (by decide) el key_ne (fun i hi x hx => o.key _ _ _ _ _ _ _ _ _ _ _ _ _ _ _ i x hi hx)
  have f2 := foldG_addW (g' := ⟨zone, who, self, types, ntypes, colors, ncolors, B sub, keys, tap, 0, 0, 0, 0, 0, 0⟩) (s := wd tapT tap) f1 (fun e => by have e0 := tap_nil _ h.tap e; simp only at e0; subst e0; rfl) (fun e => o.tap _ _ _ _ _ _ _ _ _ _ _ _ _ _ _ _ _ h.tap e)
  have f3 := foldG_addW (g' := ⟨zone, who, self, types, ntypes, colors, ncolors, B sub, keys, tap, pk, pn, 0, 0, 0, 0⟩) (s := boundW powerW pk pn) f2 (fun e => by
   have e0 := boundW_nil (by decide) e
   have e1 := h.p0 e0; simp only at e1; rw [e0, e1]; rfl) (fun e => by
   have := boundW_ne e; rw [this.2]; exact o.power _ _ _ _ _ _ _ _ _ _ _ _ _ _ _ _ pk pn h.pk this.1 h.pn)
  have f4 := foldG_addW (g' := ⟨zone, who, self, types, ntypes, colors, ncolors, B sub, keys, tap, pk, pn, tk, tn, 0, 0⟩) (s := boundW toughW tk tn) f3 (fun e => by
   have e0 := boundW_nil (by decide) e
   have e1 := h.t0 e0; simp only at e1; rw [e0, e1]; rfl) (fun e => by
   have := boundW_ne e; rw [this.2]; exact o.tough _ _ _ _ _ _ _ _ _ _ _ _ _ _ _ _ tk tn h.tk this.1 h.tn)
  exact foldG_addW (s := boundW valueW vk vn) f4 (fun e => by
   have e0 := boundW_nil (by decide) e
   have e1 := h.v0 e0; simp only at e1; rw [e0, e1]; rfl) (fun e => by
   have := boundW_ne e; rw [this.2]; exact o.value _ _ _ _ _ _ _ _ _ _ _ _ _ _ _ _ vk vn h.vk this.1 h.vn)
 show foldG st zeroF (fltWordsB (sub == []) _) = _
 unfold fltWordsB
 cases hb : (sub == []) with
 | true =>
   obtain rfl : sub = [] := by simpa using hb
   exact e8 _ e7
 | false =>
   refine e8 _ (foldG_addW e7 (fun e => absurd e (by simp [subW])) (fun _ => ?_))
   rw [o.sub]
theorem takeS_ok : StepOk takeS := ⟨tk_type, tk_ntype, tk_color, tk_ncolor, tk_key, tk_zone, tk_who, tk_self, tk_tap, tk_sub, tk_power, tk_tough, tk_value⟩
theorem fold_fn (x : FN) (h : FNok x) : foldT zeroF (fltWords x) = some (ofFN x) := (foldT_eq _ _).trans (fold_gn takeS takeS_ok x h)
theorem addW_ev {p : Str → Prop} {l : List Str} {s : Str} (hl : ∀ x ∈ l, p x) (hs : p s) : ∀ x ∈ addW l s, p x := by
 intro x hx; unfold addW at hx; split at hx
 ·exact hl x hx
 ·rcases List.mem_append.1 hx with h | h
  ·exact hl x h
  ·rw [List.mem_singleton.1 h]; exact hs
theorem foldl_addW_ev {p : Str → Prop} (m : List Str) : ∀ (l : List Str), (∀ x ∈ l, p x) → (∀ x ∈ m, p x) → ∀ x ∈ m.foldl addW l, p x := by
 induction m with
 | nil => intro l hl _; exact hl
 | cons y r ih => intro l hl hm; exact ih _ (addW_ev hl (hm y (by simp))) (fun x hx => hm x (List.mem_cons_of_mem _ hx))
def okB (c : UInt8) : Bool := okc c || (c == 58 || (c == 60 || (c == 61 || c == 62)))
def NoB (w : Str) : Prop := w.all okB = true
instance (w : Str) : Decidable (NoB w) := inferInstanceAs (Decidable (_ = true))
theorem NoB.app {a b : Str} (ha : NoB a) (hb : NoB b) : NoB (a ++ b) := by
 unfold NoB at *; rw [List.all_append, ha, hb]; rfl
theorem NoB.no {w : Str} (h : NoB w) {c : UInt8} (hc : okB c = false) : c ∉ w := fun hm => by
 rw [List.all_eq_true.1 h _ hm] at hc; cases hc
theorem wd_noB {T : List Str} (h : ∀ x ∈ T, NoB x) (i : Nat) : NoB (wd T i) := by
 unfold wd
 rcases Nat.lt_or_ge i T.length with h' | h'
 ·simp only [List.getD, List.getElem?_eq_getElem h', Option.getD_some]; exact h _ (List.getElem_mem h')
 ·simp [List.getD, List.getElem?_eq_none h', NoB]
theorem mask_noB {l : List Str} (p : Str) (T : List Str) (m : Nat) (hl : ∀ x ∈ l, NoB x) (hp : NoB p) (hT : ∀ x ∈ T, NoB x) : ∀ x ∈ addMask l p T m, NoB x := by
 unfold addMask
 refine foldl_addW_ev _ _ hl ?_
 intro x hx
 obtain ⟨i, _, rfl⟩ := List.mem_map.1 hx
 exact hp.app (wd_noB hT i)
theorem bound_noB {name : Str} (hn : NoB name) (k n : Nat) : NoB (boundW name k n) := by
 unfold boundW; split
 ·simp [NoB]
 ·refine (hn.app (wd_noB (by decide) k)).app ?_
  rw [Lib.itoa_nonneg]
  refine List.all_eq_true.2 fun c hc => ?_
  have h1 := decDigits_mem n c hc
  unfold okB okc okb
  rw [decide_eq_true h1.1, decide_eq_true h1.2]; simp
theorem isSub_noB {s : Str} (h : isSub s = true) : NoB s := by
 simp only [isSub, isName, Bool.and_eq_true] at h
 have h2 := h.1.2
 refine List.all_eq_true.2 fun c hc => ?_
 unfold okB; rw [List.all_eq_true.1 h2 c hc]; rfl
theorem words_noB (x : FN) (h : FNok x) : ∀ w ∈ fltWords x, NoB w := by
 have hsub : NoB x.sub := by
  rcases h.sub with e | e
  ·rw [e]; simp [NoB]
  ·exact isSub_noB e
 have h1 : ∀ w ∈ addMask (addMask (addMask (addMask (addW (addW (addW [] (wd zoneT x.zone)) (wd whoT x.who)) (wd selfT x.self)) [] typeT x.types) nonW typeT x.ntypes) [] colorT x.colors) nonW colorT x.ncolors, NoB w :=
  mask_noB nonW colorT _ (mask_noB [] colorT _ (mask_noB nonW typeT _ (mask_noB [] typeT _ (addW_ev (addW_ev (addW_ev (p := NoB) (fun _ h => absurd h (by simp)) (wd_noB (T := zoneT) (by decide) _)) (wd_noB (T := whoT) (by decide) _)) (wd_noB (T := selfT) (by decide) _)) (by decide) (by decide)) (by decide) (by decide)) (by decide) (by decide)) (by decide) (by decide)
 have h2 : ∀ l : List Str, (∀ w ∈ l, NoB w) → ∀ w ∈ addW (addW (addW (addW (addMask l withW kwT x.keys) (wd tapT x.tap)) (boundW powerW x.pk x.pn)) (boundW toughW x.tk x.tn)) (boundW valueW x.vk x.vn), NoB w :=
  fun l hl => addW_ev (addW_ev (addW_ev (addW_ev (p := NoB) (mask_noB withW kwT _ hl (by decide) (by decide)) (wd_noB (T := tapT) (by decide) _)) (bound_noB (name := powerW) (by decide) _ _)) (bound_noB (name := toughW) (by decide) _ _)) (bound_noB (name := valueW) (by decide) _ _)
 unfold fltWords fltWordsB
 cases (x.sub == []) with
 | true => exact h2 _ h1
 | false => exact h2 _ (addW_ev (p := NoB) h1 (NoB.app (a := subW) (by decide) hsub))
theorem foldT_any : foldT zeroF [anyW] = none := by kernel_rfl
theorem parseS_empty : parseS [] = none := by kernel_rfl
theorem text_splits (x : FN) (h : FNok x) (hw : fltWords x ≠ []) : splitOn 32 (fltText x) = fltWords x := by
 unfold fltText; rw [if_neg hw]; exact splitOn_join 32 _ hw (fun w hm => (words_noB x h w hm).no (by decide))
theorem text_any (x : FN) (h : FNok x) (hw : fltWords x ≠ []) : fltText x ≠ anyW := by
 intro e
 have h1 := text_splits x h hw
 rw [e] at h1
 have h2 := fold_fn x h
 rw [← h1] at h2
 have h3 : splitOn 32 anyW = [anyW] := by decide
 rw [h3, foldT_any] at h2; cases h2
theorem btwN {n m : Int} (h : btw n m = true) : ((n.toNat : Nat) : Int) = n ∧ (n.toNat : Int) ≤ m := by
 simp only [btw, Bool.and_eq_true, decide_eq_true_eq] at h; omega
theorem bndN {k n : Int} (h : bnd k n = true) : (((k.toNat : Nat) : Int) = k ∧ k.toNat < 4) ∧ (((n.toNat : Nat) : Int) = n ∧ n.toNat ≤ 1000000) ∧ (k.toNat = 0 → n.toNat = 0) := by
 simp only [bnd, btw, Bool.and_eq_true, decide_eq_true_eq, Bool.or_eq_true, bne_iff_ne, ne_eq, beq_iff_eq] at h
 omega
theorem fltIs_fn {f : Flt} (h : fltIs f = true) : ofFN (toFN f) = f ∧ FNok (toFN f) := by
 simp only [fltIs, okMasks, Bool.and_eq_true, Bool.or_eq_true, beq_iff_eq] at h
 obtain ⟨⟨h1, h2, h3, h4, h5⟩, ⟨h6, h7, h8⟩, ⟨h9, h10, h11⟩, h12, h13, h14, h15⟩ := h
 have a1 := btwN h1; have a2 := btwN h2; have a3 := btwN h3; have a4 := btwN h4; have a5 := btwN h5
 have a6 := btwN h6; have a7 := btwN h7; have a9 := btwN h9; have a10 := btwN h10
 have a13 := bndN h13; have a14 := bndN h14; have a15 := bndN h15
 constructor
 ·obtain ⟨zone, who, self, types, ntypes, colors, ncolors, sub, keys, tap, pk, pn, tk, tn, vk, vn⟩ := f
  simp only [ofFN, toFN, a1.1, a2.1, a3.1, a4.1, a5.1, a6.1, a7.1, a9.1, a10.1, a13.1.1, a13.2.1.1, a14.1.1, a14.2.1.1, a15.1.1, a15.2.1.1, B_L]
 ·exact {
   zone := by simp only [toFN]; omega
   who := by simp only [toFN]; omega
   self := by simp only [toFN]; omega
   tap := by simp only [toFN]; omega
   keys := by simp only [toFN]; omega
   types := by simp only [toFN]; omega
   ntypes := by simp only [toFN]; omega
   colors := by simp only [toFN]; omega
   ncolors := by simp only [toFN]; omega
   sub := h12
   pk := a13.1.2
   pn := a13.2.1.2
   p0 := a13.2.2
   tk := a14.1.2
   tn := a14.2.1.2
   t0 := a14.2.2
   vk := a15.1.2
   vn := a15.2.1.2
   v0 := a15.2.2 }
theorem parse_text {f : Flt} (h : fltIs f = true) : parseS (textOf f) = some f := by
 obtain ⟨hf, hok⟩ := fltIs_fn h
 have ht : textOf f = fltText (toFN f) := by unfold textOf; rw [if_pos h]
 have hfold := fold_fn _ hok
 rw [hf] at hfold
 have key : (if textOf f = anyW then some zeroF else foldT zeroF (splitOn 32 (textOf f))) = some f := by
  by_cases hw : fltWords (toFN f) = []
  ·rw [hw] at hfold
   have : textOf f = anyW := by rw [ht]; unfold fltText; rw [if_pos hw]
   rw [if_pos this]; exact hfold
  ·rw [ht, if_neg (text_any _ hok hw), text_splits _ hok hw]; exact hfold
 unfold parseS; rw [key]; simp
theorem text_no {f : Flt} (h : fltIs f = false) : textOf f = [] := by
 unfold textOf; rw [if_neg (by rw [h]; decide)]
theorem parse_back {s : Str} {h : Flt} (hp : parseS s = some h) : fltIs h = true ∧ textOf h = s := by
 have ht : textOf h = s := by
  unfold parseS at hp
  split at hp
  ·split at hp
   ·rename_i e; injection hp with hp; rw [← hp]; exact e
   ·cases hp
  ·cases hp
 refine ⟨?_, ht⟩
 cases hv : fltIs h with
 | true => rfl
 | false => rw [text_no hv] at ht; rw [← ht, parseS_empty] at hp; cases hp
structure Rf where
 kind : Int
 n : Int
 f : Flt
def Rf.cells (r : Rf) : Array Value := #[.int .i64 r.kind, .int .i64 r.n, .int .i64 r.f.zone, .int .i64 r.f.who, .int .i64 r.f.self, .int .i64 r.f.types, .int .i64 r.f.ntypes, .int .i64 r.f.colors, .int .i64 r.f.ncolors, .string r.f.sub, .int .i64 r.f.keys, .int .i64 r.f.tap, .int .i64 r.f.pk, .int .i64 r.f.pn, .int .i64 r.f.tk, .int .i64 r.f.tn, .int .i64 r.f.vk, .int .i64 r.f.vn]
def zeroR : Rf := ⟨0, 0, zeroF⟩
def refT : List Str := [[], [121, 111, 117], [115, 101, 108, 102], [116, 97, 114, 103, 101, 116], [101, 97, 99, 104, 40], [111, 112, 112, 111, 110, 101, 110, 116, 115], [112, 108, 97, 121, 101, 114, 115], [105, 116], [111, 119, 110, 101, 114]]
def eachW : Str := [101, 97, 99, 104, 40]
def targetW : Str := [116, 97, 114, 103, 101, 116]
def ownerW : Str := [111, 119, 110, 101, 114]
def kNum (k : Int) : Bool := k == 3 || k == 8
def kBare (k : Int) : Bool := k == 1 || (k == 2 || (k == 5 || (k == 6 || k == 7)))
def refIs (r : Rf) (specs : Int) : Bool :=
 if kNum r.kind = true then decide (1 ≤ r.n) && (decide (r.n ≤ specs) && (decide (r.n ≤ 4) && fltEq r.f zeroF))
 else if r.kind = 4 then r.n == 0 && fltIs r.f
 else kBare r.kind && (r.n == 0 && fltEq r.f zeroF)
def refBody (r : Rf) : Str :=
 if kNum r.kind = true then wd refT r.kind.toNat ++ Lib.itoa r.n
 else if r.kind = 4 then eachW ++ textOf r.f ++ [41] else wd refT r.kind.toNat
def refText (r : Rf) : Str := if refIs r 4 = true then refBody r else []
def readEach (s : Str) : Option Flt := if Lib.hasPrefix s eachW = true ∧ Lib.hasSuffix (Lib.trimPrefix s eachW) [41] = true then parseS (Lib.trimSuffix (Lib.trimPrefix s eachW) [41]) else none
def readNum (s p : Str) : Option Int := if Lib.hasPrefix s p = true then numOf (Lib.trimPrefix s p) else none
def readR (s : Str) : Rf :=
 if s = wd refT 1 then ⟨1, 0, zeroF⟩ else if s = wd refT 2 then ⟨2, 0, zeroF⟩ else if s = wd refT 5 then ⟨5, 0, zeroF⟩ else if s = wd refT 6 then ⟨6, 0, zeroF⟩ else if s = wd refT 7 then ⟨7, 0, zeroF⟩
 else match readNum s targetW with
  | some n => ⟨3, n, zeroF⟩
  | none => match readNum s ownerW with
    | some n => ⟨8, n, zeroF⟩
    | none => match readEach s with
      | some f => ⟨4, 0, f⟩
      | none => zeroR
def refParse (s : Str) : Option Rf := if refIs (readR s) 4 = true ∧ refText (readR s) = s then some (readR s) else none
theorem suffix_snoc (l : Str) : Lib.hasSuffix (l ++ [41]) [41] = true := by unfold Lib.hasSuffix; simp [List.isSuffixOf]
theorem trim_snoc (l : Str) : Lib.trimSuffix (l ++ [41]) [41] = l := by unfold Lib.trimSuffix; rw [if_pos (suffix_snoc l)]; simp
theorem pre_each (l : Str) : Lib.hasPrefix (eachW ++ l) eachW = true := by unfold Lib.hasPrefix; simp [List.isPrefixOf, eachW]
theorem trim_each (l : Str) : Lib.trimPrefix (eachW ++ l) eachW = l := by unfold Lib.trimPrefix; rw [if_pos (pre_each l)]; simp [eachW]
theorem readEach_text (l : Str) : readEach (eachW ++ l ++ [41]) = parseS l := by
 unfold readEach; rw [List.append_assoc, pre_each, trim_each, suffix_snoc, trim_snoc, if_pos ⟨rfl, rfl⟩]
theorem refIs_cases {r : Rf} (h : refIs r 4 = true) : r = ⟨1, 0, zeroF⟩ ∨ r = ⟨2, 0, zeroF⟩ ∨ r = ⟨5, 0, zeroF⟩ ∨ r = ⟨6, 0, zeroF⟩ ∨ r = ⟨7, 0, zeroF⟩ ∨ (r = ⟨3, 1, zeroF⟩ ∨ r = ⟨3, 2, zeroF⟩ ∨ r = ⟨3, 3, zeroF⟩ ∨ r = ⟨3, 4, zeroF⟩) ∨ (r = ⟨8, 1, zeroF⟩ ∨ r = ⟨8, 2, zeroF⟩ ∨ r = ⟨8, 3, zeroF⟩ ∨ r = ⟨8, 4, zeroF⟩) ∨ ∃ f, fltIs f = true ∧ r = ⟨4, 0, f⟩ := by
 obtain ⟨k, n, f⟩ := r
 unfold refIs kNum kBare at h
 simp only at h
 by_cases h3 : k = 3
 ·subst h3
  simp only [beq_self_eq_true, Bool.true_or, if_true, Bool.and_eq_true, decide_eq_true_eq] at h
  obtain ⟨h1, h2, _, hf⟩ := h
  have hf := (fltEq_iff _ _).1 hf; subst hf
  have : n = 1 ∨ n = 2 ∨ n = 3 ∨ n = 4 := by omega
  rcases this with rfl | rfl | rfl | rfl <;> simp
 ·by_cases h8 : k = 8
  ·subst h8
   simp only [beq_self_eq_true, Bool.or_true, if_true, Bool.and_eq_true, decide_eq_true_eq] at h
   obtain ⟨h1, h2, _, hf⟩ := h
   have hf := (fltEq_iff _ _).1 hf; subst hf
   have : n = 1 ∨ n = 2 ∨ n = 3 ∨ n = 4 := by omega
   rcases this with rfl | rfl | rfl | rfl <;> simp
  ·rw [if_neg (by simp [h3, h8])] at h
   by_cases h4 : k = 4
   ·subst h4
    rw [if_pos rfl, Bool.and_eq_true, beq_iff_eq] at h
    obtain ⟨rfl, hf⟩ := h
    right; right; right; right; right; right; right
    exact ⟨f, hf, rfl⟩
   ·rw [if_neg h4] at h
    simp only [Bool.and_eq_true, Bool.or_eq_true, beq_iff_eq] at h
    obtain ⟨hk, rfl, hf⟩ := h
    have hf := (fltEq_iff _ _).1 hf; subst hf
    rcases hk with rfl | rfl | rfl | rfl | rfl <;> simp
theorem read_each (f : Flt) (h : fltIs f = true) : readR (eachW ++ textOf f ++ [41]) = ⟨4, 0, f⟩ := by
 have e1 : readEach (eachW ++ textOf f ++ [41]) = some f := by rw [readEach_text, parse_text h]
 unfold readR
 rw [e1]
 have n1 : readNum (eachW ++ textOf f ++ [41]) targetW = none := rfl
 have n2 : readNum (eachW ++ textOf f ++ [41]) ownerW = none := rfl
 rw [n1, n2]
 rw [if_neg (by simp [eachW, refT, wd]), if_neg (by simp [eachW, refT, wd]), if_neg (by simp [eachW, refT, wd]), if_neg (by simp [eachW, refT, wd]), if_neg (by simp [eachW, refT, wd])]
theorem read_text {r : Rf} (h : refIs r 4 = true) : readR (refText r) = r ∧ refText r ≠ [] := by
 have ht : refText r = refBody r := if_pos h
 rw [ht]
 rcases refIs_cases h with rfl | rfl | rfl | rfl | rfl | (rfl | rfl | rfl | rfl) | (rfl | rfl | rfl | rfl) | ⟨f, hf, rfl⟩
 ·exact ⟨by kernel_rfl, by decide⟩
 ·exact ⟨by kernel_rfl, by decide⟩
 ·exact ⟨by kernel_rfl, by decide⟩
 ·exact ⟨by kernel_rfl, by decide⟩
 ·exact ⟨by kernel_rfl, by decide⟩
 ·exact ⟨by kernel_rfl, by decide +kernel⟩
 ·exact ⟨by kernel_rfl, by decide +kernel⟩
 ·exact ⟨by kernel_rfl, by decide +kernel⟩
 ·exact ⟨by kernel_rfl, by decide +kernel⟩
 ·exact ⟨by kernel_rfl, by decide +kernel⟩
 ·exact ⟨by kernel_rfl, by decide +kernel⟩
 ·exact ⟨by kernel_rfl, by decide +kernel⟩
 ·exact ⟨by kernel_rfl, by decide +kernel⟩
 ·have e : refBody ⟨4, 0, f⟩ = eachW ++ textOf f ++ [41] := rfl
  rw [e]
  exact ⟨read_each f hf, by simp [eachW]⟩
theorem refParse_text {r : Rf} (h : refIs r 4 = true) : refParse (refText r) = some r := by
 unfold refParse; rw [(read_text h).1, if_pos ⟨h, rfl⟩]
theorem refParse_empty : refParse [] = none := by kernel_rfl
structure Am where
 k : Int
 n : Int
 c : Int
 f : Flt
def Am.cells (r : Am) : Array Value := #[.int .i64 r.k, .int .i64 r.n, .int .i64 r.c, .int .i64 r.f.zone, .int .i64 r.f.who, .int .i64 r.f.self, .int .i64 r.f.types, .int .i64 r.f.ntypes, .int .i64 r.f.colors, .int .i64 r.f.ncolors, .string r.f.sub, .int .i64 r.f.keys, .int .i64 r.f.tap, .int .i64 r.f.pk, .int .i64 r.f.pn, .int .i64 r.f.tk, .int .i64 r.f.tn, .int .i64 r.f.vk, .int .i64 r.f.vn]
def zeroA : Am := ⟨0, 0, 0, zeroF⟩
def simT : List Str := [[], [120], [], [112, 111, 119, 101, 114], [], [108, 105, 102, 101], [104, 97, 110, 100], [116, 104, 97, 116]]
def cntT : List Str := [[112, 108, 117, 115], [109, 105, 110, 117, 115], [99, 104, 97, 114, 103, 101]]
def cntsW : Str := [99, 111, 117, 110, 116, 101, 114, 115, 40]
def countW : Str := [99, 111, 117, 110, 116, 40]
def bareA (k : Int) : Bool := k == 1 || (k == 3 || (k == 5 || (k == 6 || k == 7)))
def amIs (a : Am) : Bool :=
 if a.k = 0 then decide (0 ≤ a.n) && (decide (a.n ≤ 1000000) && (a.c == 0 && fltEq a.f zeroF))
 else if a.k = 2 then decide (1 ≤ a.n) && (decide (a.n ≤ 99) && (a.c == 0 && fltIs a.f))
 else if a.k = 4 then a.n == 0 && ((a.c == 0 || (a.c == 1 || a.c == 2)) && fltEq a.f zeroF)
 else bareA a.k && (a.n == 0 && (a.c == 0 && fltEq a.f zeroF))
def cntText (c : Int) : Str := if c = 0 then wd cntT 0 else if c = 1 then wd cntT 1 else if c = 2 then wd cntT 2 else []
def countS (f : Flt) : Str := countW ++ (textOf f ++ [41])
def amBody (a : Am) : Str :=
 if a.k = 0 then Lib.itoa a.n
 else if a.k = 2 then (if 1 < a.n then Lib.itoa a.n ++ 42 :: countS a.f else countS a.f)
 else if a.k = 4 then cntsW ++ (cntText a.c ++ [41])
 else wd simT a.k.toNat
def amText (a : Am) : Str := if amIs a = true then amBody a else []
def cutD (b : Nat) : Nat → Str → Option (Str × Str)
 | _, [] => none
 | d, c :: r => if d = 0 ∧ c.toNat = b then some ([], r) else (cutD b (deeperN d c.toNat) r).map fun p => (c :: p.1, p.2)
def simIx (s : Str) : Option Nat := (List.range' 0 8).find? fun k => wd simT k == s
def cntIx (s : Str) : Option Nat := (List.range' 0 3).find? fun k => wd cntT k == s
def inCount (s : Str) : Str := Lib.trimSuffix (Lib.trimPrefix s countW) [41]
def guessA (s : Str) : Am := match numOf s with
 | some n => ⟨0, n, 0, zeroF⟩
 | none => match simIx s with
   | some k => ⟨(k : Int), 0, 0, zeroF⟩
   | none => if Lib.hasPrefix s cntsW = true then ⟨4, 0, (((cntIx (Lib.trimSuffix (Lib.trimPrefix s cntsW) [41])).getD 0 : Nat) : Int), zeroF⟩
     else match cutD 42 0 s with
      | some (a, r) => ⟨2, (numOf a).getD 0, 0, (parseS (inCount r)).getD zeroF⟩
      | none => ⟨2, 1, 0, (parseS (inCount s)).getD zeroF⟩
def amParse (s : Str) : Option Am := if s ≠ [] ∧ amText (guessA s) = s then some (guessA s) else none
theorem numOf_text {s : Str} {v : Int} (h : numOf s = some v) : Lib.itoa v = s := by
 unfold numOf at h
 split at h
 ·split at h
  ·rename_i hh; injection h with h; rw [← h]; exact hh.2.2
  ·cases h
 ·cases h
theorem itoa_mem {v : Int} {c : UInt8} (h : c ∈ Lib.itoa v) : c.toNat = 45 ∨ (48 ≤ c.toNat ∧ c.toNat ≤ 57) := by
 rcases (by omega : v < 0 ∨ 0 ≤ v) with hv | hv
 ·obtain ⟨u, rfl⟩ : ∃ u : Nat, v = -(u : Int) := ⟨v.natAbs, by omega⟩
  rw [Lib.itoa_neg u (by omega)] at h
  rcases List.mem_cons.1 h with rfl | h
  ·exact .inl rfl
  ·exact .inr (decDigits_mem u c h)
 ·obtain ⟨u, rfl⟩ : ∃ u : Nat, v = (u : Int) := ⟨v.toNat, by omega⟩
  rw [Lib.itoa_nonneg] at h
  exact .inr (decDigits_mem u c h)
theorem numOf_bracket {s : Str} (h : (41 : UInt8) ∈ s) : numOf s = none := by
 cases hn : numOf s with
 | none => rfl
 | some v =>
   rw [← numOf_text hn] at h
   have := itoa_mem h
   simp at this
theorem simIx_bracket {s : Str} (h : (41 : UInt8) ∈ s) : simIx s = none := by
 unfold simIx
 rw [List.find?_eq_none]
 intro k hk e
 have e := beq_iff_eq.1 e
 rw [← e] at h
 have hall : ∀ k, k < 8 → (41 : UInt8) ∉ wd simT k := by decide
 exact hall k (by simp at hk; omega) h
theorem cutD_skip (l r : Str) (h : ∀ c ∈ l, c.toNat ≠ 42 ∧ c.toNat ≠ 40 ∧ c.toNat ≠ 41 ∧ c.toNat ≠ 91 ∧ c.toNat ≠ 93) : cutD 42 0 (l ++ 42 :: r) = some (l, r) := by
 induction l with
 | nil => rfl
 | cons x t ih =>
   have hx := h x (by simp)
   have hd : deeperN 0 x.toNat = 0 := by unfold deeperN; rw [if_neg (by omega), if_neg (by omega)]
   rw [List.cons_append, cutD, if_neg (by omega), hd, ih (fun c hc => h c (List.mem_cons_of_mem _ hc))]; rfl
theorem cutD_none : ∀ (s : Str) (d : Nat), (42 : UInt8) ∉ s → cutD 42 d s = none
 | [], _, _ => rfl
 | x :: t, d, h => by
   have hx : ¬ x.toNat = 42 := fun e => h (by rw [show x = 42 from UInt8.toNat_inj.1 e]; simp)
   rw [cutD, if_neg (by omega), cutD_none t _ (fun hm => h (List.mem_cons_of_mem _ hm))]; rfl
theorem cutD_len : ∀ {s : Str} {d b : Nat} {p q : Str}, cutD b d s = some (p, q) → p.length ≤ s.length ∧ q.length ≤ s.length
 | [], _, _, _, _, h => by cases h
 | x :: t, d, b, p, q, h => by
   rw [cutD] at h
   split at h
   ·injection h with h; injection h with h1 h2; subst h1 h2; simp
   ·cases hc : cutD b (deeperN d x.toNat) t with
    | none => rw [hc] at h; cases h
    | some pr =>
      rw [hc] at h
      obtain ⟨p', q'⟩ := pr
      have := cutD_len hc
      simp at h
      obtain ⟨rfl, rfl⟩ := h
      simp; omega
theorem join_mem {c : UInt8} {sep : Str} : ∀ {l : List Str}, c ∈ Lib.join l sep → (∃ w ∈ l, c ∈ w) ∨ c ∈ sep
 | [], h => by simp [Lib.join_nil] at h
 | [x], h => by rw [Lib.join_one] at h; exact .inl ⟨x, by simp, h⟩
 | x :: y :: r, h => by
   have e : Lib.join (x :: y :: r) sep = x ++ (sep ++ Lib.join (y :: r) sep) := by simp [Lib.join, List.intercalate, List.intersperse]
   rw [e] at h
   rcases List.mem_append.1 h with h | h
   ·exact .inl ⟨x, by simp, h⟩
   rcases List.mem_append.1 h with h | h
   ·exact .inr h
   ·rcases join_mem h with ⟨w, hw, hc⟩ | h
    ·exact .inl ⟨w, List.mem_cons_of_mem _ hw, hc⟩
    ·exact .inr h
theorem textOf_mem {f : Flt} {c : UInt8} (h : c ∈ textOf f) : okB c = true ∨ c = 32 := by
 unfold textOf at h
 split at h
 ·rename_i hv
  obtain ⟨_, hok⟩ := fltIs_fn hv
  unfold fltText at h
  split at h
  ·have : ∀ c ∈ anyW, okB c = true := by decide
   exact .inl (this c h)
  ·rcases join_mem h with ⟨w, hw, hc⟩ | h
   ·exact .inl (List.all_eq_true.1 (words_noB _ hok w hw) c hc)
   ·right; simpa using h
 ·cases h
theorem countS_mem {f : Flt} : (41 : UInt8) ∈ countS f ∧ (42 : UInt8) ∉ countS f := by
 refine ⟨by simp [countS], fun h => ?_⟩
 unfold countS at h
 rcases List.mem_append.1 h with h | h
 ·revert h; decide
 rcases List.mem_append.1 h with h | h
 ·rcases textOf_mem h with h | h
  ·revert h; decide
  ·revert h; decide
 ·revert h; decide
theorem inCount_text (f : Flt) : inCount (countS f) = textOf f := by
 unfold inCount countS
 have h1 : Lib.hasPrefix (countW ++ (textOf f ++ [41])) countW = true := by unfold Lib.hasPrefix; simp [List.isPrefixOf, countW]
 have h2 : Lib.trimPrefix (countW ++ (textOf f ++ [41])) countW = textOf f ++ [41] := by unfold Lib.trimPrefix; rw [if_pos h1]; simp [countW]
 rw [h2, trim_snoc]
theorem dig_small : ∀ n : Fin 100, 1 ≤ n.val → (∃ x r, Lib.itoa (n.val : Nat) = x :: r ∧ x.toNat ≠ 99) := fun n h => by
 have h1 : Lib.itoa (n.val : Nat) = Lib.decDigits n.val := Lib.itoa_nonneg _
 cases hd : Lib.decDigits n.val with
 | nil => exact absurd hd (decDigits_ne _)
 | cons x r =>
   refine ⟨x, r, by rw [h1, hd], ?_⟩
   have := decDigits_mem n.val x (by rw [hd]; simp)
   omega
theorem amBody_two (n c : Int) (f : Flt) : amBody ⟨2, n, c, f⟩ = if 1 < n then Lib.itoa n ++ 42 :: countS f else countS f := rfl
theorem amIs_cases {a : Am} (h : amIs a = true) : (∃ n : Nat, n ≤ 1000000 ∧ a = ⟨0, n, 0, zeroF⟩) ∨ (∃ n : Nat, 1 ≤ n ∧ n ≤ 99 ∧ ∃ f, fltIs f = true ∧ a = ⟨2, n, 0, f⟩) ∨ (∃ c, (c = 0 ∨ c = 1 ∨ c = 2) ∧ a = ⟨4, 0, c, zeroF⟩) ∨ (∃ k, (k = 1 ∨ k = 3 ∨ k = 5 ∨ k = 6 ∨ k = 7) ∧ a = ⟨k, 0, 0, zeroF⟩) := by
 obtain ⟨k, n, c, f⟩ := a
 unfold amIs at h
 simp only at h
 by_cases h0 : k = 0
 ·rw [if_pos h0] at h
  simp only [Bool.and_eq_true, decide_eq_true_eq, beq_iff_eq] at h
  obtain ⟨a1, a2, rfl, hf⟩ := h
  have := (fltEq_iff _ _).1 hf; subst this; subst h0
  exact .inl ⟨n.toNat, by omega, by rw [Int.toNat_of_nonneg a1]⟩
 rw [if_neg h0] at h
 by_cases h2 : k = 2
 ·rw [if_pos h2] at h
  simp only [Bool.and_eq_true, decide_eq_true_eq, beq_iff_eq] at h
  obtain ⟨a1, a2, rfl, hf⟩ := h
  subst h2
  exact .inr (.inl ⟨n.toNat, by omega, by omega, f, hf, by rw [Int.toNat_of_nonneg (by omega)]⟩)
 rw [if_neg h2] at h
 by_cases h4 : k = 4
 ·rw [if_pos h4] at h
  simp only [Bool.and_eq_true, Bool.or_eq_true, beq_iff_eq] at h
  obtain ⟨rfl, hc, hf⟩ := h
  have := (fltEq_iff _ _).1 hf; subst this; subst h4
  exact .inr (.inr (.inl ⟨c, hc, rfl⟩))
 ·rw [if_neg h4] at h
  unfold bareA at h
  simp only [Bool.and_eq_true, Bool.or_eq_true, beq_iff_eq] at h
  obtain ⟨hk, rfl, rfl, hf⟩ := h
  have := (fltEq_iff _ _).1 hf; subst this
  exact .inr (.inr (.inr ⟨k, hk, rfl⟩))
theorem guess_count (f : Flt) (hf : fltIs f = true) : guessA (countS f) = ⟨2, 1, 0, f⟩ := by
 unfold guessA
 rw [numOf_bracket countS_mem.1]
 simp only
 rw [simIx_bracket countS_mem.1]
 simp only
 rw [if_neg (by unfold Lib.hasPrefix countS; simp [List.isPrefixOf, countW, cntsW]), cutD_none _ _ countS_mem.2]
 simp only
 rw [inCount_text, parse_text hf]; rfl
theorem guess_times (n : Nat) (h1 : 2 ≤ n) (h2 : n ≤ 99) (f : Flt) (hf : fltIs f = true) : guessA (Lib.itoa n ++ 42 :: countS f) = ⟨2, n, 0, f⟩ := by
 have hm : (41 : UInt8) ∈ Lib.itoa n ++ 42 :: countS f := List.mem_append_right _ (List.mem_cons_of_mem _ countS_mem.1)
 obtain ⟨x, r, hx, h99⟩ := dig_small ⟨n, by omega⟩ (by show 1 ≤ n; omega)
 have hp : Lib.hasPrefix (Lib.itoa n ++ 42 :: countS f) cntsW = false := by
  simp only at hx
  rw [hx]
  unfold Lib.hasPrefix
  have : ¬ (99 : UInt8) = x := fun e => h99 (by rw [← e]; rfl)
  simp [List.isPrefixOf, cntsW, this]
 have hc := cutD_skip (Lib.itoa n) (countS f) (fun c hc => by have := itoa_mem hc; omega)
 unfold guessA
 rw [numOf_bracket hm]
 simp only
 rw [simIx_bracket hm]
 simp only
 rw [if_neg (by rw [hp]; simp), hc]
 simp only
 rw [inCount_text, parse_text hf, numOf_itoa n (by omega)]; rfl
theorem guess_text {a : Am} (h : amIs a = true) : guessA (amText a) = a ∧ amText a ≠ [] := by
 have ht : amText a = amBody a := if_pos h
 rw [ht]
 rcases amIs_cases h with ⟨n, hn, rfl⟩ | ⟨n, h1, h2, f, hf, rfl⟩ | ⟨c, hc, rfl⟩ | ⟨k, hk, rfl⟩
 ·have e : amBody ⟨0, (n : Int), 0, zeroF⟩ = Lib.itoa n := rfl
  rw [e]
  refine ⟨by unfold guessA; rw [numOf_itoa n hn], ?_⟩
  rw [Lib.itoa_nonneg]; exact decDigits_ne n
 ·by_cases hn : n = 1
  ·subst hn
   have e : amBody ⟨2, ((1 : Nat) : Int), 0, f⟩ = countS f := rfl
   rw [e]
   exact ⟨guess_count f hf, by simp [countS]⟩
  ·have e : amBody ⟨2, (n : Int), 0, f⟩ = Lib.itoa n ++ 42 :: countS f := by
    rw [amBody_two, if_pos (by omega)]
   rw [e]
   exact ⟨guess_times n (by omega) h2 f hf, by simp⟩
 ·rcases hc with rfl | rfl | rfl
  all_goals exact ⟨by kernel_rfl, by decide +kernel⟩
 ·rcases hk with rfl | rfl | rfl | rfl | rfl
  all_goals exact ⟨by kernel_rfl, by decide +kernel⟩
theorem amParse_text {a : Am} (h : amIs a = true) : amParse (amText a) = some a := by
 unfold amParse; rw [(guess_text h).1]; exact if_pos ⟨(guess_text h).2, rfl⟩
theorem amParse_empty : amParse [] = none := if_neg (fun h => h.1 rfl)
theorem cntText_len (c : Int) : (cntText c).length ≤ 6 := by
 unfold cntText; split
 ·decide
 split
 ·decide
 split
 ·decide
 ·decide
def cntRow : Array Value := (cntT.map fun x => Value.string (B x)).toArray
structure LaidM (w : World) : Prop where
 base : Laid w
 cnts : ∃ ty fr, w.heap[(0 : Nat)]? = some (.cells cntRow ty fr)
theorem LaidM.below {w w' : World} (h : LaidM w) (hb : Below w.heap.size w w') : LaidM w' := ⟨h.base.below hb, by
 obtain ⟨ty, fr, hv⟩ := h.cnts
 exact ⟨ty, fr, blk_below2 hb hv⟩⟩
theorem LaidM.alloc {w : World} (h : LaidM w) (o : Obj) : LaidM (w.alloc o) := h.below ((Below.refl _ _).alloc (Nat.le_refl _) _)
theorem LaidM.cnt {w : World} (h : LaidM w) {k : Nat} (hk : k < 3) : w.cell? ⟨(0 : Nat), k, none⟩ = some (.string (B (wd cntT k))) := by
 obtain ⟨ty, fr, hv⟩ := h.cnts
 rw [cell_of_row _ _ k _ _ _ hv]
 have hl : k < cntT.length := hk
 simp [cntRow, wd, List.getD, hl]
theorem cntName_any (c : Int) (w : World) (hl : LaidM w) : Calls Tryz.prog 40 #[.int .i64 c] w fun e w' => e = .returned (.string (B (cntText c))) ∧ w = w' := by
 have q0 := hl.cnt (k := 0) (by omega)
 have q1 := hl.cnt (k := 1) (by omega)
 have q2 := hl.cnt (k := 2) (by omega)
 by_cases h0 : c = 0
 ·subst h0
  go_enter Tryz.func40, Tryz.ntmps40
  go_wp2
  go_ret
  exact ⟨rfl, rfl⟩
 by_cases h1 : c = 1
 ·subst h1
  go_enter Tryz.func40, Tryz.ntmps40
  go_wp2
  go_ret
  exact ⟨rfl, rfl⟩
 by_cases h2 : c = 2
 ·subst h2
  go_enter Tryz.func40, Tryz.ntmps40
  go_wp2
  go_ret
  exact ⟨rfl, rfl⟩
 ·have HR : Hid (cntText c = []) := Lib.hid (by unfold cntText; rw [if_neg h0, if_neg h1, if_neg h2])
  have hc : c < 0 ∨ (0 ≤ c ∧ 3 ≤ c) := by omega
  clear h0 h1 h2
  generalize cntText c = R at *
  rcases hc with hc | ⟨hc, hd⟩
  all_goals
   go_enter Tryz.func40, Tryz.ntmps40
   go_wp2
   go_ret
   exact ⟨ret_str (by rw [HR.out]; rfl), rfl⟩
theorem cntName_is (c : Int) (R : ByteArray) (h : Hid (B (cntText c) = R)) (w : World) (hl : LaidM w) : Calls Tryz.prog 40 #[.int .i64 c] w fun e w' => e = .returned (.string R) ∧ w = w' :=
 (cntName_any c w hl).mono fun e w' h' => ⟨by rw [h'.1, h.out], h'.2⟩
def ixRet (o : Option Nat) : Int := match o with | some k => (k : Int) | none => -1
theorem cntIndex_any (s : ByteArray) (w : World) (hl : LaidM w) :
 Calls Tryz.prog 138 #[.slice (some ⟨(0 : Nat), 0, none⟩) 3 3, .string s] w fun e w' => e = .returned (.int .i64 (ixRet (cntIx (L s)))) ∧ w = w' := by
 obtain ⟨R, hR⟩ : ∃ R, cntIx (L s) = R := ⟨_, rfl⟩
 rw [hR]
 have HR : Hid (((List.range' 0 3).find? fun k => wd cntT k == L s) = R) := Lib.hid hR
 clear hR
 go_enter Tryz.func138, Tryz.ntmps138
 go_wp2
 go_loop [8] (fun kv => ∃ k : Nat, k ≤ 3 ∧ kv = .int .i64 k ∧ Hid (((List.range' k (3 - k)).find? fun k => wd cntT k == L s) = R)) (fun kv => 3 - (intOf kv).toNat)
 case atStart => exact ⟨0, by omega, rfl, HR⟩
 case round =>
  obtain ⟨k, hk, rfl, HD⟩ := hrel
  by_cases hlt : k < 3
  ·have hk3 : (k : Int) < 3 := by omega
   have q := hl.cnt hlt
   have hst := HD.out
   rw [show 3 - k = (3 - (k + 1)) + 1 by omega, List.range'_succ, List.find?_cons] at hst
   generalize wd cntT k = x at *
   by_cases he : L s = x
   ·have te : (s.toList == x) = true := toList_lit_yes he
    have HN : Hid (some k = R) := Lib.hid (by rw [← hst, show (x == L s) = true by simpa using he.symm])
    clear hst he
    go_wp2
    go_ret
    exact ⟨ret_int (by rw [← HN.out]; rfl), rfl⟩
   ·have te : (s.toList == x) = false := toList_lit_no he
    have HN : Hid (((List.range' (k + 1) (3 - (k + 1))).find? fun k => wd cntT k == L s) = R) := Lib.hid (by rw [← hst, show (x == L s) = false by simpa using fun e => he e.symm])
    clear hst he
    go_wp2
    go_round
    case rel => exact ⟨k + 1, by omega, by go_num, HN⟩
    case measure => simp [intOf]; omega
  ·obtain rfl : k = 3 := by omega
   have HN : Hid (none = R) := Lib.hid (by rw [← HD.out]; rfl)
   go_wp2
   go_ret
   exact ⟨ret_int (by rw [← HN.out]; rfl), rfl⟩
theorem cntKind_is (s : ByteArray) (n : Int) (b : Bool) (h : Hid ((((cntIx (L s)).getD 0 : Nat) : Int) = n ∧ (cntIx (L s)).isSome = b)) (w : World) (hl : LaidM w) :
 Calls Tryz.prog 83 #[.string s] w fun e w' => e = .returned (.tuple #[.int .i64 n, .bool b]) ∧ w = w' := by
 obtain ⟨o, ho⟩ : ∃ o, cntIx (L s) = o := ⟨_, rfl⟩
 have HC : ∀ wx, LaidM wx → Calls Tryz.prog 138 #[.slice (some ⟨(0 : Nat), 0, none⟩) 3 3, .string s] wx fun e w' => e = .returned (.int .i64 (ixRet o)) ∧ wx = w' := fun wx hlx => by rw [← ho]; exact cntIndex_any s wx hlx
 obtain ⟨h1, h2⟩ := h.out
 rw [ho] at h1 h2
 have HCH := Lib.hid HC
 cases o with
 | none =>
   have HN : Hid ((0 : Int) = n ∧ false = b) := Lib.hid ⟨h1, h2⟩
   clear h h1 h2 ho HC
   go_enter Tryz.func83, Tryz.ntmps83
   go_wp2_with (go_at_call 138; (with_reducible refine (HCH.out _ hl).mono ?_); rintro e w1 ⟨rfl, rfl⟩; dsimp only [ixRet])
   go_ret2
   exact ⟨ret_val (by rw [← HN.out.1, ← HN.out.2]; try rfl), rfl⟩
 | some k =>
   have HN : Hid ((k : Int) = n ∧ true = b) := Lib.hid ⟨h1, h2⟩
   have hk0 : (0 : Int) ≤ (k : Int) := by omega
   clear h h1 h2 ho HC
   go_enter Tryz.func83, Tryz.ntmps83
   go_wp2_with (go_at_call 138; (with_reducible refine (HCH.out _ hl).mono ?_); rintro e w1 ⟨rfl, rfl⟩; dsimp only [ixRet])
   go_ret2
   exact ⟨ret_val (by rw [← HN.out.1, ← HN.out.2]; try simp), rfl⟩
theorem infoStr1 : (Tryz.prog.info? 9).map (·.size) = some 1 := by kernel_rfl
theorem infoBool1 : (Tryz.prog.info? 4).map (·.size) = some 1 := by kernel_rfl
theorem scal3 : ∃ d, Tryz.prog.underlying 3 = some d ∧ d.isRow = false := ⟨_, Tryz.underlying3, rfl⟩
theorem scal9 : ∃ d, Tryz.prog.underlying 9 = some d ∧ d.isRow = false := ⟨_, Tryz.underlying9, rfl⟩
theorem scal4 : ∃ d, Tryz.prog.underlying 4 = some d ∧ d.isRow = false := ⟨_, Tryz.underlying4, rfl⟩
theorem flt_one (r : Flt) : r.cells.all (·.oneCell') = true := by simp [Flt.cells, Value.oneCell']
theorem flt_info : (Tryz.prog.info? 25).map (·.size) = some 16 := by kernel_rfl
theorem flt_new : ∀ w : World, (zeroValue 25).run Tryz.prog w = .ok (.agg (Flt.cells zeroF)) w := fun _ => by kernel_rfl
theorem flt_build_ : ∀ w : World, (Instr.build 25 ([] : List (Nat × Value)).toArray).run Tryz.prog w = .ok (.agg (Flt.cells ⟨(zeroF).zone, (zeroF).who, (zeroF).self, (zeroF).types, (zeroF).ntypes, (zeroF).colors, (zeroF).ncolors, (zeroF).sub, (zeroF).keys, (zeroF).tap, (zeroF).pk, (zeroF).pn, (zeroF).tk, (zeroF).tn, (zeroF).vk, (zeroF).vn⟩)) w := fun _ => by kernel_rfl
def flt_shape_ {ops rest a w Q dst ty pos af gd} (h : wpList Tryz.prog ops Q ((⟨dst, .build 25 #[], ty, pos, af, gd⟩ : Oper) :: rest) a w) := h
def flt_bld_ {ops rest} {a : Act} {w Q dst ty pos af gd} hw h :=
 @wpList_bld w ops rest (⟨dst, .build 25 #[], ty, pos, af, gd⟩ : Oper) a Q 25 [] rfl hw [] (by simp only [List.map_cons, List.map_nil]) _ (flt_build_) h
theorem flt_at0 (r : Flt) : (Flt.cells r)[0]? = some (.int .i64 r.zone) := rfl
theorem flt_put (r x : Flt) : (Flt.cells r).toList.take 0 ++ (Value.cells (.agg (Flt.cells x))).toList ++ (Flt.cells r).toList.drop (0 + (Value.cells (.agg (Flt.cells x))).size) = (Flt.cells x).toList := rfl
def flt_stw {L w0 w rows ops rest o a Q x y} ho hS hw {g} hx {v} hy {r T' rows'} hm h :=
 @wpList_st L w0 w rows ops rest o a Q 25 x y ho hS hw g 0 hx _ hy _ _ T' rows' hm (by exact Nat.le_of_ble_eq_true rfl) (flt_put r v) flt_info (flt_one v) h
def flt_ld0 {L w0 w rows ops rest o a Q x} ho hS hw {g} hx {r T'} hm h :=
 @wpList_ld_cell L w0 w rows ops rest o a Q 3 x ho hS hw g 0 hx _ T' hm scal3 _ (flt_at0 r) h
def flt_ldw {L w0 w rows ops rest o a Q x} ho hS hw {g} hx {r T'} hm h :=
 @wpList_ld_row L w0 w rows ops rest o a Q 25 x ho hS hw g hx (Flt.cells r) T' hm _ Tryz.underlying25 rfl flt_info h
theorem fltIs_c (f : Flt) (w : World) (hl : Laid w) : Calls Tryz.prog 57 #[.agg f.cells] w fun e w' => e = .returned (.bool (fltIs f)) ∧ Below w.heap.size w w' :=
 fltIs_any f.zone f.who f.self f.types f.ntypes f.colors f.ncolors f.sub f.keys f.tap f.pk f.pn f.tk f.tn f.vk f.vn w hl _ (Lib.hid rfl)
theorem keepsL : ∀ w1 w2 : World, Laid w1 → Below w1.heap.size w1 w2 → Laid w2 := fun _ _ h hb => h.below hb
theorem keepsM : ∀ w1 w2 : World, LaidM w1 → Below w1.heap.size w1 w2 → LaidM w2 := fun _ _ h hb => h.below hb
end Go.Proofs.YtdnnbfbhifelkaaGreatDoor
namespace Go.Proofs.YtdnnbfbhifelkaaGreatDoor
def hotOp (o : Oper) : Bool := o.guard.isSome || match o.op with
 | .box .. => true
 | .alloc .. => true
 | .build .. => true
 | .buildSlice .. => true
 | .load .. => true
 | .store .. => true
 | .call .. => true
 | .binOp .add 9 _ _ _ => true
 | .binOp .eql T _ _ _ => T != 3 && (T != 9 && T != 4)
 | .binOp .neq T _ _ _ => T != 3 && (T != 9 && T != 4)
 | _ => false
theorem hot_here {P : Program} {ops : Array Oper} {Q : Exit → Act → World → Prop} {o : Oper} {rest : List Oper} {a : Act} {w : World} (_ : hotOp o = true) (h : wpList P ops Q (o :: rest) a w) : wpList P ops Q (o :: rest) a w := h
end Go.Proofs.YtdnnbfbhifelkaaGreatDoor
namespace Go.Proofs.YtdnnbfbhifelkaaGreatDoor
open Go.ChangeShapes Go.WideShapes Go.RowKit
def look : List Value → Nat → Option Value
 | [], _ => none
 | x :: _, 0 => some x
 | _ :: l, n + 1 => look l n
theorem look_at : ∀ (l : List Value) (n : Nat), look l n = l[n]?
 | [], n => by simp [look]
 | x :: l, 0 => rfl
 | x :: l, n + 1 => by simp [look, look_at l n]
class Part (cs : Array Value) (off T : Nat) (ds : outParam (Array Value)) : Prop where
 at_ : ∀ j v, ds[j]? = some v → cs[off + j]? = some v
 row : ∃ d, Tryz.prog.underlying T = some d ∧ d.isRow = true
 size : (Tryz.prog.info? T).map (·.size) = some ds.size
class Zer (T : Nat) (cs : outParam (Array Value)) : Prop where
 z : ∀ w, (zeroValue T).run Tryz.prog w = .ok (.agg cs) w
class Put (cs : Array Value) (off T : Nat) (v : Value) (new : outParam (Array Value)) : Prop where
 fit : off + v.cells.size ≤ cs.size
 new : cs.toList.take off ++ v.cells.toList ++ cs.toList.drop (off + v.cells.size) = new.toList
 info : (Tryz.prog.info? T).map (·.size) = some v.cells.size
 one : v.cells.all (·.oneCell') = true
class Sub (L L' : World → Prop) : Prop where
 sub : ∀ w, L w → L' w
instance {L : World → Prop} : Sub L L := ⟨fun _ h => h⟩
class Con (k : Nat) (args : Array Value) (L : World → Prop) (v : outParam Value) : Prop where
 c : ∀ w, L w → Calls Tryz.prog k args w fun e w' => e = .returned v ∧ Below w.heap.size w w'
section
variable {L : World → Prop} {w0 w : World} {rows : List Row} {ops : Array Oper} {rest : List Oper} {o : Oper} {a a' : Act} {Q : Exit → Act → World → Prop}
theorem u_pass (hw : Region.wanted o (yielded ops a.tmps) = false) (ha : a.put o.dst undef = a') (h : wpList Tryz.prog ops Q rest a' w) : wpList Tryz.prog ops Q (o :: rest) a w := by subst ha; exact wpList_pass hw h
theorem u_cell {T : Nat} {x : Operand} (ho : o.op = .load T x) (hS : St L w0 rows w) (hw : Region.wanted o (yielded ops a.tmps) = true) {g off : Nat} (hx : a.eval x = .pointer (some ⟨g, off, none⟩)) {cs : Array Value} {T' : Nat} (hm : RowAt g cs T' rows)
 {d : TypeDesc} (hd : Tryz.prog.underlying T = some d) (hr : d.isRow = false) {v : Value} (hv : look cs.toList off = some v) (ha : a.put o.dst v = a') (h : wpList Tryz.prog ops Q rest a' w) : wpList Tryz.prog ops Q (o :: rest) a w := by
 subst ha; exact wpList_ld_cell ho hS hw hx hm ⟨d, hd, hr⟩ (by rw [look_at] at hv; simpa using hv) h
theorem u_part {T : Nat} {x : Operand} (ho : o.op = .load T x) (hS : St L w0 rows w) (hw : Region.wanted o (yielded ops a.tmps) = true) {g off : Nat} (hx : a.eval x = .pointer (some ⟨g, off, none⟩)) {cs ds : Array Value} {T' : Nat} (hm : RowAt g cs T' rows)
 (hp : Part cs off T ds) (ha : a.put o.dst (.agg ds) = a') (h : wpList Tryz.prog ops Q rest a' w) : wpList Tryz.prog ops Q (o :: rest) a w := by
 subst ha; obtain ⟨d, hu, hd⟩ := hp.row; exact wpList_ld_part T ho hS hw off hx hm hp.at_ hu hd hp.size h
theorem u_box {T : Nat} {x : Operand} (ho : o.op = .box T x) (hS : St L w0 rows w) (hw : Region.wanted o (yielded ops a.tmps) = true) {cs : Array Value} (hx : a.eval x = .agg cs)
 (h : ∀ g w', St L w0 ((g, cs, T) :: rows) w' → wpList Tryz.prog ops Q rest (a.put o.dst (.pointer (some ⟨g, 0, none⟩))) w') : wpList Tryz.prog ops Q (o :: rest) a w := wpList_box_agg ho hS hw hx h
theorem u_new {T : Nat} (ho : o.op = .alloc T) (hS : St L w0 rows w) (hw : Region.wanted o (yielded ops a.tmps) = true) {cs : Array Value} (hz : Zer T cs)
 (h : ∀ g w', St L w0 ((g, cs, T) :: rows) w' → wpList Tryz.prog ops Q rest (a.put o.dst (.pointer (some ⟨g, 0, none⟩))) w') : wpList Tryz.prog ops Q (o :: rest) a w := wpList_new T ho hS hw cs hz.z h
theorem u_call {k : Nat} {args : Array Value} {v : Value} {R : Ending → World → Prop} (hS : St L w0 rows w) (hc : Con k args L v) (h : ∀ w', St L w0 rows w' → R (.returned v) w') : Calls Tryz.prog k args w R :=
 (hS.call (hc.c w)).mono fun e w' ⟨he, h'⟩ => by subst he; exact h w' h'
theorem c_call {k : Nat} {args : Array Value} {v : Value} {R : Ending → World → Prop} (hc : L w → Calls Tryz.prog k args w fun e w' => e = .returned v ∧ Below w.heap.size w w') (hS : St L w0 rows w) (h : ∀ w', St L w0 rows w' → R (.returned v) w') : Calls Tryz.prog k args w R :=
 (hS.call hc).mono fun e w' ⟨he, h'⟩ => by subst he; exact h w' h'
end
section
variable {L : World → Prop} {w0 w : World} {rows : List Row} {ops : Array Oper} {rest : List Oper} {o : Oper} {a a' : Act} {Q : Exit → Act → World → Prop}
inductive Ev (a : Act) (y : Operand) : Value → Prop
 | i {k n} (h : a.eval y = .int k n) : Ev a y (.int k n)
 | a {c} (h : a.eval y = .agg c) : Ev a y (.agg c)
 | s {s} (h : a.eval y = .string s) : Ev a y (.string s)
 | b {b} (h : a.eval y = .bool b) : Ev a y (.bool b)
 | l {p n c} (h : a.eval y = .slice p n c) : Ev a y (.slice p n c)
theorem Ev.eq {y : Operand} {v : Value} (h : Ev a y v) : a.eval y = v := by cases h <;> assumption
inductive EvL (a : Act) : List (Nat × Operand) → List (Nat × Value) → Prop
 | n : EvL a [] []
 | c {i y v l r} (h : Ev a y v) (t : EvL a l r) : EvL a ((i, y) :: l) ((i, v) :: r)
theorem EvL.eq {l : List (Nat × Operand)} {r : List (Nat × Value)} (h : EvL a l r) : l.map (fun p => (p.1, a.eval p.2)) = r := by
 induction h with
 | n => rfl
 | c h _ ih => simp only [List.map_cons, h.eq, ih]
class EqC (T : Nat) (x y : Array Value) (b : outParam Bool) : Prop where
 e : ∀ w, (binOp .eql T (.agg x) (.agg y)).run Tryz.prog w = .ok (.bool b) w
theorem EqC.ne {T : Nat} {x y : Array Value} {b : Bool} (h : EqC T x y b) (w : World) : (binOp .neq T (.agg x) (.agg y)).run Tryz.prog w = .ok (.bool (!b)) w := by
 have h := h.e w
 rw [run_eql_struct] at h
 rw [run_neq_struct]
 generalize (Op.equalIn 10000 T (.agg x) (.agg y)).run Tryz.prog w = r at *
 cases r <;> simp_all [Result.andThen]
theorem run_eqs {T : Nat} {x y : Operand} {ty : TypeId} (ho : o.op = .binOp .eql T x y ty) {u v : Array Value} (hx : a.eval x = .agg u) (hy : a.eval y = .agg v) (hg : Tryz.prog.eqGuardType Tryz.prog.depth T = false) {b : Bool} (he : EqC T u v b) (w : World) : (execOp a.eval o).run Tryz.prog w = .ok (.value (.bool b)) w := by
 unfold execOp
 have h := he.e w
 simp only [ho, hx, hy]
 simp [eqGuard, Sem.run_bind, h, hg, run_program]
theorem run_neqs {T : Nat} {x y : Operand} {ty : TypeId} (ho : o.op = .binOp .neq T x y ty) {u v : Array Value} (hx : a.eval x = .agg u) (hy : a.eval y = .agg v) (hg : Tryz.prog.eqGuardType Tryz.prog.depth T = false) {b : Bool} (he : EqC T u v b) (w : World) : (execOp a.eval o).run Tryz.prog w = .ok (.value (.bool (!b))) w := by
 unfold execOp
 have h := he.ne w
 simp only [ho, hx, hy]
 simp [eqGuard, Sem.run_bind, h, hg, run_program]
theorem u_val {v : Value} (hw : Region.wanted o (yielded ops a.tmps) = true) (hr : ∀ w, (execOp a.eval o).run Tryz.prog w = .ok (.value v) w) (ha : a.put o.dst v = a') (h : wpList Tryz.prog ops Q rest a' w) : wpList Tryz.prog ops Q (o :: rest) a w := by
 subst ha
 exact wpList_one hw fun K hK => by unfold Oper.wp; rw [hr w]; exact hK _ _ h
class Bld (T : Nat) (ps : List (Nat × Value)) (v : outParam Value) : Prop where
 b : ∀ w, (Instr.build T ps.toArray).run Tryz.prog w = .ok v w
theorem u_build {T : Nat} {l : List (Nat × Operand)} (ho : o.op = .build T l.toArray) (hw : Region.wanted o (yielded ops a.tmps) = true) {ps : List (Nat × Value)} (hp : EvL a l ps) {v : Value} (hv : Bld T ps v) (ha : a.put o.dst v = a') (h : wpList Tryz.prog ops Q rest a' w) : wpList Tryz.prog ops Q (o :: rest) a w := by
 subst ha; exact wpList_bld ho hw hp.eq hv.b h
theorem u_store {T : Nat} {x y : Operand} (ho : o.op = .store T x y) (hS : St L w0 rows w) (hw : Region.wanted o (yielded ops a.tmps) = true) {g off : Nat} (hx : a.eval x = .pointer (some ⟨g, off, none⟩)) {v : Value} (hy : Ev a y v)
 {cs new : Array Value} {T' : Nat} {rows'} (hm : RowSet g cs new T' rows rows') (hp : Put cs off T v new) (ha : a.put o.dst undef = a') {rows2 : List Row} (hz : rows' = rows2) (h : ∀ w', St L w0 rows2 w' → wpList Tryz.prog ops Q rest a' w') : wpList Tryz.prog ops Q (o :: rest) a w := by
 subst ha; subst hz; exact wpList_st ho hS hw hx hy.eq hm hp.fit hp.new hp.info hp.one h
theorem r_pass {S : World → Prop} (hw : Region.wanted o (yielded ops a.tmps) = false) (hq : ∀ c a w, Q (.panic c) (a.put o.dst undef) w → Q (.panic c) a w) (ha : a.put o.dst undef = a') (h : RunS Tryz.prog ops Q S rest a') : RunS Tryz.prog ops Q S (o :: rest) a := by subst ha; exact runS_pass hw hq h
theorem r_val {v : Value} (hw : Region.wanted o (yielded ops a.tmps) = true) (hy : ∀ w, St L w0 rows w → (execOp a.eval o).run Tryz.prog w = .ok (.value v) w) (hq : ∀ c a w, Q (.panic c) (a.put o.dst v) w → Q (.panic c) a w) (ha : a.put o.dst v = a')
 (h : RunS Tryz.prog ops Q (St L w0 rows) rest a') : RunS Tryz.prog ops Q (St L w0 rows) (o :: rest) a := by subst ha; exact runS_val hw hq hy h
theorem r_cell {T : Nat} {x : Operand} (ho : o.op = .load T x) {g off : Nat} (hx : a.eval x = .pointer (some ⟨g, off, none⟩)) {cs : Array Value} {T' : Nat} (hm : RowAt g cs T' rows) {d : TypeDesc} (hd : Tryz.prog.underlying T = some d) (hr : d.isRow = false) {v : Value} (hv : look cs.toList off = some v) :
 ∀ w, St L w0 rows w → (execOp a.eval o).run Tryz.prog w = .ok (.value v) w := fun w hS => run_ld_cell hS ho hx hm ⟨d, hd, hr⟩ (by rw [look_at] at hv; simpa using hv)
theorem r_part {T : Nat} {x : Operand} (ho : o.op = .load T x) {g off : Nat} (hx : a.eval x = .pointer (some ⟨g, off, none⟩)) {cs ds : Array Value} {T' : Nat} (hm : RowAt g cs T' rows) (hp : Part cs off T ds) :
 ∀ w, St L w0 rows w → (execOp a.eval o).run Tryz.prog w = .ok (.value (.agg ds)) w := fun w hS => by
 obtain ⟨d, hu, hd⟩ := hp.row; exact run_ld_part hS ho hx hm hp.at_ hu hd hp.size
theorem r_call {k : Nat} {args : Array Value} {v : Value} (hw : Region.wanted o (yielded ops a.tmps) = true) (hy : ∀ w, (execOp a.eval o).run Tryz.prog w = .ok (.enter k args) w) (hc : Con k args L v) (hq : ∀ c a w, Q (.panic c) (a.put o.dst v) w → Q (.panic c) a w) (ha : a.put o.dst v = a')
 (h : RunS Tryz.prog ops Q (St L w0 rows) rest a') : RunS Tryz.prog ops Q (St L w0 rows) (o :: rest) a := by subst ha; exact runS_call k hw hq hy (fun w hS => hS.call (hc.c w)) h
theorem Part.of {cs ds : Array Value} {off T n : Nat} (h : (cs.toList.drop off).take n = ds.toList) {d : TypeDesc} (hu : Tryz.prog.underlying T = some d) (hd : d.isRow = true) (hs : (Tryz.prog.info? T).map (·.size) = some ds.size) : Part cs off T ds :=
 ⟨fun j v hj => (by
  have h1 : ds.toList[j]? = some v := by simpa using hj
  rw [← h, List.getElem?_take] at h1
  split at h1
  ·simpa using h1
  ·cases h1), ⟨d, hu, hd⟩, hs⟩
theorem Put.of {cs new : Array Value} {off T : Nat} {v : Value} (h : cs.toList.take off ++ v.cells.toList ++ cs.toList.drop (off + v.cells.size) = new.toList) (f : Nat.ble (off + v.cells.size) cs.size = true) (hi : (Tryz.prog.info? T).map (·.size) = some v.cells.size) (h1 : v.cells.toList.all (·.oneCell') = true) : Put cs off T v new :=
 ⟨Nat.le_of_ble_eq_true f, h, hi, by simpa using h1⟩
end
class Len (s : Str) (n : outParam Nat) : Prop where
 le : s.length ≤ n
class TLen (l : List Str) (n : outParam Nat) : Prop where
 le : ∀ x ∈ l, x.length ≤ n
instance {l : List Str} {n k : Nat} [h : TLen l n] : Len (l.getD k []) n := ⟨by
 rw [List.getD_eq_getElem?_getD]
 rcases Nat.lt_or_ge k l.length with hk | hk
 ·rw [List.getElem?_eq_getElem hk]; exact h.le _ (List.getElem_mem hk)
 ·rw [List.getElem?_eq_none hk]; exact Nat.zero_le _⟩
instance : Len [] 0 := ⟨Nat.le_refl _⟩
instance {x : UInt8} {s : Str} {n : Nat} [h : Len s n] : Len (x :: s) (n + 1) := ⟨Nat.succ_le_succ h.le⟩
instance {s t : Str} {m n : Nat} [h : Len s m] [k : Len t n] : Len (s ++ t) (m + n) := ⟨by rw [List.length_append]; exact Nat.add_le_add h.le k.le⟩
section
variable {L : World → Prop} {w0 w : World} {rows : List Row} {ops : Array Oper} {rest : List Oper} {o : Oper} {a a' : Act} {Q : Exit → Act → World → Prop}
theorem run_catU {x y : Operand} {ty : TypeId} (ho : o.op = .binOp .add 9 x y ty) {p q : Str} (hx : a.eval x = .string (B p)) (hy : a.eval y = .string (B q)) {m n : Nat} (hp : Len p m) (hq : Len q n) (hb : Nat.ble (m + n) 9223372036854775807 = true) (w : World) :
 (execOp a.eval o).run Tryz.prog w = .ok (.value (.string (B (p ++ q)))) w := by
 have h := run_string_add_sum (P := Tryz.prog) (w := w) (B p) (B q) (by rw [B_size, B_size]; exact Nat.le_trans (Nat.add_le_add hp.le hq.le) (Nat.le_of_ble_eq_true hb))
 rw [B_append] at h
 unfold execOp
 simp only [ho, hx, hy]
 simp [go_sem, Tryz.underlying9, h, eqGuard]
end
theorem res1 {L : World → Prop} {w0 w : World} {rows : List Row} {a : Act} {fn : Func} {p : Tmp} {T g T' : Nat} {cs : Array Value} {R : Ending → World → Prop} (hS : St L w0 rows w) (h : R (.returned (.agg cs)) w)
 (hf : fn.results = #[.cell p T] := by exact rfl) (hp : a.tmps.getD p undef = .pointer (some ⟨g, 0, none⟩) := by exact rfl) (hm : RowAt g cs T' rows := by repeat constructor) (hc : Part cs 0 T cs := by infer_instance) (hd : a.defers = [] := by exact rfl) : bodyPost Tryz.prog fn R .ret a w := by
 obtain ⟨d, hu, hr⟩ := hc.row
 exact St.result hS hf hp hm hu hr hc.size hd fun _ => h
theorem res2 {L : World → Prop} {w0 w : World} {rows : List Row} {a : Act} {fn : Func} {p q : Tmp} {T g T' : Nat} {cs : Array Value} {v : Value} {R : Ending → World → Prop} (hS : St L w0 rows w) (h : R (.returned (.tuple #[.agg cs, v])) w)
 (hf : fn.results = #[.cell p T, .tmp q] := by exact rfl) (hp : a.tmps.getD p undef = .pointer (some ⟨g, 0, none⟩) := by exact rfl) (hq : Ev a (.tmp q) v := by first | exact .i rfl | exact .b rfl | exact .s rfl | exact .l rfl | exact .a rfl) (hm : RowAt g cs T' rows := by repeat constructor) (hc : Part cs 0 T cs := by infer_instance) (hd : a.defers = [] := by exact rfl) : bodyPost Tryz.prog fn R .ret a w := by
 obtain ⟨d, hu, hr⟩ := hc.row
 exact bodyPost_ret ((results_row_tmp hf a.tmps w g T' cs (0, 0) d hp (hS.row hm) hu (by cases d <;> first | rfl | exact hr) hc.size).trans (by rw [show a.tmps.getD q undef = v from hq.eq])) hd h
theorem ret_B {p q : Str} (h : p = q) : Ending.returned (.string (B p)) = .returned (.string (B q)) := by rw [h]
theorem fin {P : Prop} (h : P := by
 first
 | omega
 | (simp_all; done)
 | ((repeat' split) <;> intros <;> first | omega | (simp_all; done) | (simp_all; omega))
 | (rw [Bool.eq_iff_iff]; simp_all; done)
 | (rw [Bool.eq_iff_iff]; simp_all; omega)) : P := h
section
variable {L : World → Prop} {w0 w : World} {rows : List Row}
theorem St.grow (h : St L w0 rows w) {w' : World} (hb : Below w.heap.size w w') {g T : Nat} {cs : Array Value} (hg : w'.heap[g]? = some (.cells cs T (0, 0))) (h1 : w.heap.size ≤ g) : St L w0 ((g, cs, T) :: rows) w' := by
 have h' := h.mono hb
 refine ⟨h'.base, h'.keeps, h'.below, ?_, ?_⟩
 ·intro x hx
  rcases List.mem_cons.1 hx with rfl | hx
  ·exact ⟨hg, Nat.le_trans h.below.size h1⟩
  ·exact h'.has x hx
 ·simp only [List.map_cons, List.nodup_cons]
  refine ⟨?_, h'.apart⟩
  intro hm
  obtain ⟨x, hx, e⟩ := List.mem_map.1 hm
  have := (Array.getElem?_eq_some_iff.1 (h.has x hx).1).1
  omega
def HasWords (cur : Array Value) (l : List Str) : Prop := ∀ (k : Nat) (x : Str), l[k]? = some x → cur[k]? = some (Value.string (B x))
theorem St.words (h : St L w0 rows w) {w' : World} {l : List Str} {A : Option Addr} {c : Nat} (ht : Texts w' w.heap.size l (.slice A l.length c)) (hb : Below w.heap.size w w') (hne : 0 < l.length) :
 ∃ g cur, A = some ⟨g, 0, none⟩ ∧ HasWords cur l ∧ l.length ≤ c ∧ St L w0 ((g, cur, 9) :: rows) w' := by
 rcases ht.2 with ⟨_, h0⟩ | ⟨g, cap, cur, hv, hg, hh, hn, _, _, hx⟩
 ·omega
 ·injection hv with h1 h2 h3
  subst h1 h3
  refine ⟨g, cur, rfl, ?_, hn, h.grow hb hh hg⟩
  intro k x hk
  have hlt : k < l.length := by
   rcases Nat.lt_or_ge k l.length with h | h
   ·exact h
   ·rw [List.getElem?_eq_none h] at hk; cases hk
  have e := congrArg (fun z => z[k]?) hx
  simp only [Nat.mul_one, List.getElem?_take, hlt, if_true, Array.getElem?_toList] at e
  rw [e, strCells_at hlt]
  rw [List.getElem?_eq_getElem hlt] at hk
  rw [Option.some.inj hk]
end
class ConT (k : Nat) (args : Array Value) (L : World → Prop) (l : outParam (List Str)) (n : outParam Nat) : Prop where
 c : ∀ w, L w → Calls Tryz.prog k args w (RetTexts w l)
 len : l.length = n
 pos : 0 < n
theorem u_tab {L : World → Prop} {w0 w : World} {rows : List Row} {k : Nat} {args : Array Value} {l : List Str} {n : Nat} {R : Ending → World → Prop} (hS : St L w0 rows w) (hc : ConT k args L l n)
 (h : ∀ g cur c w', Hid (HasWords cur l) → n ≤ c → St L w0 ((g, cur, 9) :: rows) w' → R (.returned (.slice (some ⟨g, 0, none⟩) n c)) w') : Calls Tryz.prog k args w R :=
 (hc.c w hS.laid).mono fun e w' ⟨A, c, he, ht, hb⟩ => by
  obtain ⟨g, cur, hA, hh, hcw, hS'⟩ := hS.words ht hb (by rw [hc.len]; exact hc.pos)
  subst he; subst hA; rw [hc.len] at hcw ⊢
  exact h g cur c w' hh hcw hS'
theorem hw_cell {L : World → Prop} {w0 w : World} {rows : List Row} {cur : Array Value} {l : List Str} (hS : St L w0 rows w) {g : Nat} (hm : RowAt g cur 9 rows) (HW : Hid (HasWords cur l)) {k : Nat} (hk : k < l.length) : w.cell? ⟨g, k, none⟩ = some (.string (B (l.getD k []))) := by
 rw [cell_of_row w g k cur 9 (0, 0) (hS.row hm)]
 exact HW.out k _ (by rw [List.getD_eq_getElem?_getD, List.getElem?_eq_getElem hk]; rfl)
section
variable {L : World → Prop} {w0 w : World} {rows : List Row} {ops : Array Oper} {rest : List Oper} {o : Oper} {a a' : Act} {Q : Exit → Act → World → Prop}
theorem r_word {x : Operand} (ho : o.op = .load 9 x) {g k : Nat} (hx : a.eval x = .pointer (some ⟨g, k, none⟩)) {cur : Array Value} (hm : RowAt g cur 9 rows) {l : List Str} (HW : Hid (HasWords cur l)) (hk : k < l.length) (w : World) (hS : St L w0 rows w) :
 (execOp a.eval o).run Tryz.prog w = .ok (.value (.string (B (l.getD k [])))) w := by
 have hc := hw_cell hS hm HW hk
 have hagg : (isAgg 9).run Tryz.prog w = .ok false w := by
  unfold isAgg
  rw [Sem.run_bind, run_underlying Tryz.underlying9 w]
  simp
 have hl : (loadVar 9 ⟨g, k, none⟩).run Tryz.prog w = .ok (.string (B (l.getD k []))) w := by simp [loadVar, Sem.run_bind, hagg, hc]
 unfold execOp
 simp only [ho, hx, Instr.loadAt, Instr.sureAddr, Sem.run_bind, Sem.run_pure, Result.andThen_ok, hl]
theorem u_word {x : Operand} (ho : o.op = .load 9 x) (hS : St L w0 rows w) (hw : Region.wanted o (yielded ops a.tmps) = true) {g k : Nat} (hx : a.eval x = .pointer (some ⟨g, k, none⟩)) {cur : Array Value} (hm : RowAt g cur 9 rows) {l : List Str} (HW : Hid (HasWords cur l)) (hk : k < l.length)
 (ha : a.put o.dst (.string (B (l.getD k []))) = a') (h : wpList Tryz.prog ops Q rest a' w) : wpList Tryz.prog ops Q (o :: rest) a w := by
 subst ha
 exact wpList_one hw fun K hK => by unfold Oper.wp; rw [r_word ho hx hm HW hk w hS]; exact hK _ _ h
end
theorem St.tail {L : World → Prop} {w0 w : World} {x : Row} {rows : List Row} (h : St L w0 (x :: rows) w) : St L w0 rows w :=
 ⟨h.base, h.keeps, h.below, fun y hy => h.has y (.tail _ hy), by have := h.apart; simp only [List.map_cons, List.nodup_cons] at this; exact this.2⟩
theorem St.start0 (w : World) : St (fun _ => True) w [] w := .start trivial fun _ _ _ _ => trivial
theorem iE {x y : Int} (h : (x == y) = true := by assumption) : x = y := eq_of_beq h
theorem sE {x y : Str} (h : (x == y) = true := by assumption) : x = y := eq_of_beq h
theorem s0 {G R : Prop} (k : R) (h : R → G := by
 intro k
 first
 | ((with_reducible refine wpList_here ?_)
    refine hot_here rfl ?_
    first
    | exact u_pass rfl (by simp only [put0, put1, put2, put3, put4]; exact rfl) k
    | exact u_part rfl hS rfl rfl (by repeat constructor) (by infer_instance) (by simp only [put0, put1, put2, put3, put4]; exact rfl) k
    | exact u_word rfl hS rfl rfl (by repeat constructor) (by assumption) (by first | decide | omega) (by simp only [put0, put1, put2, put3, put4]; exact rfl) k
    | exact u_cell rfl hS rfl rfl (by repeat constructor) rfl rfl rfl (by simp only [put0, put1, put2, put3, put4]; exact rfl) k
    | exact u_build rfl rfl (by repeat (first | exact .n | (apply EvL.c; first | exact .i rfl | exact .a rfl | exact .s rfl | exact .b rfl | exact .l rfl))) (by infer_instance) (by simp only [put0, put1, put2, put3, put4]; exact rfl) k
    | exact u_val rfl (run_catU (by rfl) (by rfl) (by rfl) (by infer_instance) (by infer_instance) (by rfl)) (by simp only [put0, put1, put2, put3, put4]; exact rfl) k
    | exact u_val rfl (run_eqs (by rfl) (by rfl) (by rfl) (by kernel_rfl) (by infer_instance)) (by simp only [put0, put1, put2, put3, put4]; exact rfl) k
    | exact u_val rfl (run_neqs (by rfl) (by rfl) (by rfl) (by kernel_rfl) (by infer_instance)) (by simp only [put0, put1, put2, put3, put4]; exact rfl) k)
 | ((with_reducible refine runS_here ?_)
    first
    | exact r_pass rfl (fun _ _ _ h => h) (by simp only [put0, put1, put2, put3, put4]; exact rfl) k
    | exact r_val rfl (r_part (by rfl) (by rfl) (by repeat constructor) (by infer_instance)) (fun _ _ _ h => h) (by simp only [put0, put1, put2, put3, put4]; exact rfl) k
    | exact r_val rfl (r_word (by rfl) (by rfl) (by repeat constructor) (by assumption) (by first | decide | omega)) (fun _ _ _ h => h) (by simp only [put0, put1, put2, put3, put4]; exact rfl) k
    | exact r_val rfl (r_cell (by rfl) (by rfl) (by repeat constructor) (by rfl) (by rfl) (by exact rfl)) (fun _ _ _ h => h) (by simp only [put0, put1, put2, put3, put4]; exact rfl) k
    | exact r_val rfl (fun w _ => run_catU (by rfl) (by rfl) (by rfl) (by infer_instance) (by infer_instance) (by rfl) w) (fun _ _ _ h => h) (by simp only [put0, put1, put2, put3, put4]; exact rfl) k
    | exact r_call rfl (by intro w; go_simp; first | with_reducible rfl | exact ⟨rfl, rfl⟩) (by infer_instance) (fun _ _ _ h => h) (by simp only [put0, put1, put2, put3, put4]; exact rfl) k
    | exact r_val rfl (by intro w hS; go_simp; with_reducible rfl) (fun _ _ _ h => h) (by simp only [put0, put1, put2, put3, put4]; exact rfl) k)
 | ((with_reducible refine region_here ?_); exact wp_region_St hS (by kernel_rfl) (by kernel_rfl) k)) : G := h k
theorem s1 {G R : Prop} (k : R) (h : R → G := by
 intro k
 first
 | ((with_reducible refine wpList_here ?_); refine hot_here rfl ?_; exact u_store rfl hS rfl rfl (by first | exact .i rfl | exact .a rfl | exact .s rfl | exact .b rfl | exact .l rfl) (by repeat constructor) (by infer_instance) (by simp only [put0, put1, put2, put3, put4]; exact rfl) (by first | (dsimp only; done) | (dsimp only; exact rfl) | exact rfl) k)
 | exact runS_end k
 | exact u_call hS (by infer_instance) k) : G := h k
theorem s2 {G R : Prop} (k : R) (h : R → G := by
 intro k
 refine hot_here rfl ?_
 first
 | exact u_box rfl hS rfl rfl k
 | exact u_new rfl hS rfl (by infer_instance) k) : G := h k
theorem s4 {G R : Prop} (k : R) (h : R → G := by
 intro k
 exact u_tab hS (by infer_instance) k) : G := h k
theorem s3 {G R1 R2 : Prop} (k1 : R1) (k2 : R2) (h : R1 → R2 → G := by
 intro k1 k2
 first
 | ((with_reducible refine wp_cond_here ?_); refine wp_cond_split rfl (fun hb => ?_) (fun hb => ?_))
 | ((with_reducible refine wpList_here ?_); refine hot_here rfl ?_; (fail_if_success refine wpList_wanted rfl ?_); refine wpList_ask _ _ rfl rfl (fun hb => ?_) (fun hb => ?_) <;> simp only [hb])
 | ((with_reducible refine runS_here ?_); (fail_if_success refine runS_wanted rfl ?_); refine runS_ask _ _ rfl rfl (fun hb => ?_) (fun hb => ?_) <;> simp only [hb])
 ·(try simp only [decide_eq_true_eq, beq_iff_eq, Bool.and_eq_true, Bool.or_eq_true] at hb); revert hb; exact k1
 ·(try simp only [decide_eq_false_iff_not, Bool.and_eq_false_iff, Bool.or_eq_false_iff] at hb); revert hb; exact k2) : G := h k1 k2
end Go.Proofs.YtdnnbfbhifelkaaGreatDoor
namespace Go.Proofs.YtdnnbfbhifelkaaGreatDoor
open Go.ChangeShapes Go.WideShapes Go.RowKit
section
variable {L : World → Prop} {w0 w : World} {rows : List Row} {ops : Array Oper} {rest : List Oper} {o : Oper} {a : Act} {Q : Exit → Act → World → Prop}
theorem run_cat {x y : Operand} {ty : TypeId} (ho : o.op = .binOp .add 9 x y ty) {p q : Str} (hx : a.eval x = .string (B p)) (hy : a.eval y = .string (B q)) (hb : p.length + q.length ≤ 9223372036854775807) (w : World) :
 (execOp a.eval o).run Tryz.prog w = .ok (.value (.string (B (p ++ q)))) w := by
 have h := run_string_add_sum (P := Tryz.prog) (w := w) (B p) (B q) (by rw [B_size, B_size]; exact hb)
 rw [B_append] at h
 unfold execOp
 simp only [ho, hx, hy]
 simp [go_sem, Tryz.underlying9, h, eqGuard]
variable {dst : Option Tmp} {ty : TypeId} {pos : String} {af : Array Edge} {gd : Option (Nat × Bool)}
theorem at_cat {x y : Operand} {t : TypeId} (h : wpList Tryz.prog ops Q ((⟨dst, .binOp .add 9 x y t, ty, pos, af, gd⟩ : Oper) :: rest) a w) : wpList Tryz.prog ops Q ((⟨dst, .binOp .add 9 x y t, ty, pos, af, gd⟩ : Oper) :: rest) a w := h
theorem rat_cat {P : Program} {S : World → Prop} {x y : Operand} {t : TypeId} (h : RunS P ops Q S ((⟨dst, .binOp .add 9 x y t, ty, pos, af, gd⟩ : Oper) :: rest) a) : RunS P ops Q S ((⟨dst, .binOp .add 9 x y t, ty, pos, af, gd⟩ : Oper) :: rest) a := h
theorem wpList_cat {x y : Operand} {ty : TypeId} (ho : o.op = .binOp .add 9 x y ty) (hw : Region.wanted o (yielded ops a.tmps) = true) {p q : Str} (hx : a.eval x = .string (B p)) (hy : a.eval y = .string (B q)) (hb : p.length + q.length ≤ 9223372036854775807)
 (h : wpList Tryz.prog ops Q rest (a.put o.dst (.string (B (p ++ q)))) w) : wpList Tryz.prog ops Q (o :: rest) a w :=
 wpList_one hw fun K hK => by
  unfold Oper.wp
  rw [run_cat ho hx hy hb]
  exact hK _ _ h
theorem runS_cat {x y : Operand} {ty : TypeId} (ho : o.op = .binOp .add 9 x y ty) (hw : Region.wanted o (yielded ops a.tmps) = true) {p q : Str} (hx : a.eval x = .string (B p)) (hy : a.eval y = .string (B q)) (hb : p.length + q.length ≤ 9223372036854775807)
 (hq : ∀ c a w, Q (.panic c) (a.put o.dst (.string (B (p ++ q)))) w → Q (.panic c) a w) (h : RunS Tryz.prog ops Q (St L w0 rows) rest (a.put o.dst (.string (B (p ++ q))))) : RunS Tryz.prog ops Q (St L w0 rows) (o :: rest) a :=
 runS_val hw hq (fun w _ => run_cat ho hx hy hb w) h
theorem int_eq {x y : Int} (h : (x == y) = true) : x = y := eq_of_beq h
theorem str_eq {x y : Str} (h : (x == y) = true) : x = y := eq_of_beq h
theorem loop_here {c : Code} (h : (Code.loop c).wp Tryz.prog Q a w) : (Code.loop c).wp Tryz.prog Q a w := h
theorem rounds_step {c : Code} {n : Nat} (h : c.wp Tryz.prog (Exit.then (Code.rounds Tryz.prog c Q n) Q) a w) : Code.rounds Tryz.prog c Q (n + 1) a w := h
theorem run_ld_out {x : Operand} (ho : o.op = .load 9 x) {p : Addr} (hx : a.eval x = .pointer (some p)) {v : Value} (hc : w.cell? p = some v) : (execOp a.eval o).run Tryz.prog w = .ok (.value v) w := by
 obtain ⟨d, hu, hd⟩ := scal9
 have hagg : (isAgg 9).run Tryz.prog w = .ok false w := by
  unfold isAgg
  rw [Sem.run_bind, run_underlying hu w]
  cases d <;> simp_all
 have hl : (loadVar 9 p).run Tryz.prog w = .ok v w := by simp [loadVar, Sem.run_bind, hagg, hc]
 unfold execOp
 simp only [ho, hx, Instr.loadAt, Instr.sureAddr, Sem.run_bind, Sem.run_pure, Result.andThen_ok, hl]
theorem wpList_ld_out {x : Operand} (ho : o.op = .load 9 x) (hw : Region.wanted o (yielded ops a.tmps) = true) {p : Addr} (hx : a.eval x = .pointer (some p)) {v : Value} (hc : w.cell? p = some v)
 (h : wpList Tryz.prog ops Q rest (a.put o.dst v) w) : wpList Tryz.prog ops Q (o :: rest) a w :=
 wpList_one hw fun K hK => by
  unfold Oper.wp
  rw [run_ld_out ho hx hc]
  exact hK _ _ h
theorem runS_ld_out {x : Operand} (ho : o.op = .load 9 x) (hw : Region.wanted o (yielded ops a.tmps) = true) {p : Addr} (hx : a.eval x = .pointer (some p)) {v : Value} (hc : ∀ w, St L w0 rows w → w.cell? p = some v)
 (hq : ∀ c a w, Q (.panic c) (a.put o.dst v) w → Q (.panic c) a w) (h : RunS Tryz.prog ops Q (St L w0 rows) rest (a.put o.dst v)) : RunS Tryz.prog ops Q (St L w0 rows) (o :: rest) a :=
 runS_val hw hq (fun w hS => run_ld_out ho hx (hc w hS)) h
def CellsAt (g off : Nat) (l : List Str) (w : World) : Prop := ∀ k x, l[k]? = some x → w.cell? ⟨g, off + k, none⟩ = some (.string (B x))
theorem CellsAt.keep {g off : Nat} {l : List Str} {w1 w2 : World} (h : CellsAt g off l w1) (hb : Below w1.heap.size w1 w2) : CellsAt g off l w2 := fun k x hx => cell_below hb (h k x hx)
theorem HasWords.at_ {cur : Array Value} {l : List Str} (h : HasWords cur l) {g : Nat} (hS : St L w0 rows w) (hm : RowAt g cur 9 rows) (off : Nat) : CellsAt g off (l.drop off) w := fun k x hx => by
 rw [cell_of_row w g (off + k) cur 9 (0, 0) (hS.row hm)]
 exact h (off + k) x (by rw [List.getElem?_drop] at hx; exact hx)
end
end Go.Proofs.YtdnnbfbhifelkaaGreatDoor
namespace Go.Proofs.YtdnnbfbhifelkaaGreatDoor
open Go.ChangeShapes Go.WideShapes Go.RowKit
structure Tg where
 k : Int
 who : Int
 f : Flt
def Tg.cells (r : Tg) : Array Value := #[.int .i64 r.k, .int .i64 r.who, .int .i64 r.f.zone, .int .i64 r.f.who, .int .i64 r.f.self, .int .i64 r.f.types, .int .i64 r.f.ntypes, .int .i64 r.f.colors, .int .i64 r.f.ncolors, .string r.f.sub, .int .i64 r.f.keys, .int .i64 r.f.tap, .int .i64 r.f.pk, .int .i64 r.f.pn, .int .i64 r.f.tk, .int .i64 r.f.tn, .int .i64 r.f.vk, .int .i64 r.f.vn]
def cutAt (c : UInt8) : Str → Str × Str
 | [] => ([], [])
 | x :: r => if x == c then ([], r) else (x :: (cutAt c r).1, (cutAt c r).2)
theorem index_one (c : UInt8) (s : Str) : (Lib.index s [c] = -1 ∧ cutAt c s = (s, [])) ∨ (∃ i : Nat, Lib.index s [c] = i ∧ cutAt c s = (s.take i, s.drop (i + 1))) := by
 induction s with
 | nil => exact Or.inl ⟨rfl, rfl⟩
 | cons x r ih =>
   by_cases h : x = c
   ·subst h
    refine Or.inr ⟨0, ?_, ?_⟩
    ·unfold Lib.index; simp [List.isPrefixOf]
    ·simp [cutAt]
   ·have h1 : (x == c) = false := by simpa using h
    have h2 : List.isPrefixOf [c] (x :: r) = false := by simp [List.isPrefixOf]; exact fun e => h e.symm
    rcases ih with ⟨a, b⟩ | ⟨i, a, b⟩
    ·refine Or.inl ⟨?_, ?_⟩
     ·unfold Lib.index; rw [h2, a]; rfl
     ·rw [cutAt, h1, b]; rfl
    ·refine Or.inr ⟨i + 1, ?_, ?_⟩
     ·unfold Lib.index; rw [h2, a]
      have : ((i : Int) == -1) = false := by rw [beq_eq_false_iff_ne]; omega
      simp [this]
     ·rw [cutAt, h1, b]; simp
theorem cut_one (c : UInt8) (s : Str) : (Lib.cut s [c]).1 = (cutAt c s).1 ∧ (Lib.cut s [c]).2.1 = (cutAt c s).2 := by
 unfold Lib.cut
 rcases index_one c s with ⟨a, b⟩ | ⟨i, a, b⟩
 ·rw [a, b, if_neg (by omega)]; exact ⟨rfl, rfl⟩
 ·rw [a, b, if_pos (by omega)]; exact ⟨rfl, rfl⟩
theorem cut_len (c : UInt8) (s : Str) : (cutAt c s).1.length ≤ s.length ∧ (cutAt c s).2.length ≤ s.length := by
 rcases index_one c s with ⟨_, b⟩ | ⟨i, _, b⟩
 ·rw [b]; simp
 ·rw [b]; simp; omega
structure Rp where
 on : Int
 who : Int
 f : Flt
 d : Int
 n : Int
 z : Int
 c : Int
def Rp.cells (r : Rp) : Array Value := #[.int .i64 r.on, .int .i64 r.who, .int .i64 r.f.zone, .int .i64 r.f.who, .int .i64 r.f.self, .int .i64 r.f.types, .int .i64 r.f.ntypes, .int .i64 r.f.colors, .int .i64 r.f.ncolors, .string r.f.sub, .int .i64 r.f.keys, .int .i64 r.f.tap, .int .i64 r.f.pk, .int .i64 r.f.pn, .int .i64 r.f.tk, .int .i64 r.f.tn, .int .i64 r.f.vk, .int .i64 r.f.vn, .int .i64 r.d, .int .i64 r.n, .int .i64 r.z, .int .i64 r.c]
def zonI : List Str := [[98, 97, 116, 116, 108, 101, 102, 105, 101, 108, 100], [104, 97, 110, 100], [108, 105, 98, 114, 97, 114, 121], [103, 114, 97, 118, 101, 121, 97, 114, 100], [101, 120, 105, 108, 101], [115, 116, 97, 99, 107]]
def zoneName (z : Int) : Str := if z = 0 then wd zonI 0 else if z = 1 then wd zonI 1 else if z = 2 then wd zonI 2 else if z = 3 then wd zonI 3 else if z = 4 then wd zonI 4 else if z = 5 then wd zonI 5 else []
structure Md where
 kind : Int
 n : Int
 m : Int
 sub : ByteArray
 f : Flt
def Md.cells (r : Md) : Array Value := #[.int .i64 r.kind, .int .i64 r.n, .int .i64 r.m, .string r.sub, .int .i64 r.f.zone, .int .i64 r.f.who, .int .i64 r.f.self, .int .i64 r.f.types, .int .i64 r.f.ntypes, .int .i64 r.f.colors, .int .i64 r.f.ncolors, .string r.f.sub, .int .i64 r.f.keys, .int .i64 r.f.tap, .int .i64 r.f.pk, .int .i64 r.f.pn, .int .i64 r.f.tk, .int .i64 r.f.tn, .int .i64 r.f.vk, .int .i64 r.f.vn]
def zeroM : Md := ⟨0, 0, 0, ⟨#[]⟩, zeroF⟩
def controlV : Str := [99, 111, 110, 116, 114, 111, 108]
def blankV : Str := [98, 108, 97, 110, 107]
def switchV : Str := [112, 116, 45, 115, 119, 105, 116, 99, 104]
def typesV : Str := [116, 121, 112, 101, 115]
def typesPV : Str := [116, 121, 112, 101, 115, 43]
def subV : Str := [115, 117, 98]
def subPV : Str := [115, 117, 98, 43]
def colorsV : Str := [99, 111, 108, 111, 114, 115]
def colorsPV : Str := [99, 111, 108, 111, 114, 115, 43]
def keysPV : Str := [107, 101, 121, 115, 43]
def keysMV : Str := [107, 101, 121, 115, 45]
def ptV : Str := [112, 116]
def ptPV : Str := [112, 116, 43]
def countPV : Str := [99, 111, 117, 110, 116, 40]
def usesN (k : Int) : Bool := k == 2 || (k == 3 || (k == 6 || (k == 7 || (k == 8 || (k == 9 || (k == 12 || k == 13))))))
def usedM (r : Md) : Md := ⟨r.kind, if usesN r.kind = true then r.n else 0, if r.kind = 12 ∨ r.kind = 13 then r.m else 0, if r.kind = 4 ∨ r.kind = 5 then r.sub else ⟨#[]⟩, if r.kind = 11 then r.f else zeroF⟩
def mdEq (a b : Md) : Bool := a.kind == b.kind && (a.n == b.n && (a.m == b.m && (a.sub.toList == b.sub.toList && fltEq a.f b.f)))
theorem mdEq_iff (a b : Md) : mdEq a b = true ↔ a = b := by
 obtain ⟨a1, a2, a3, a4, a5⟩ := a
 obtain ⟨b1, b2, b3, b4, b5⟩ := b
 simp only [mdEq, Bool.and_eq_true, beq_iff_eq, fltEq_iff, Md.mk.injEq]
 constructor
 ·rintro ⟨h1, h2, h3, h4, h5⟩
  refine ⟨h1, h2, h3, ?_, h5⟩
  exact L_inj (by rw [← L_toList, ← L_toList]; exact h4)
 ·rintro ⟨h1, h2, h3, h4, h5⟩
  exact ⟨h1, h2, h3, by rw [h4], h5⟩
def mdNums (r : Md) : Bool :=
 if r.kind = 2 ∨ r.kind = 3 then decide (1 ≤ r.n) && (decide (r.n ≤ 63) && (bits .and .i64 r.n 6 == 0))
 else if r.kind = 4 ∨ r.kind = 5 then isSub (L r.sub)
 else if r.kind = 6 then decide (0 ≤ r.n) && decide (r.n ≤ 31)
 else if r.kind = 7 then decide (1 ≤ r.n) && decide (r.n ≤ 31)
 else if r.kind = 8 ∨ r.kind = 9 then decide (1 ≤ r.n) && decide (r.n ≤ 131071)
 else if r.kind = 11 then fltIs r.f
 else if r.kind = 12 then decide (0 ≤ r.n) && (decide (r.n ≤ 99) && (decide (0 ≤ r.m) && decide (r.m ≤ 99)))
 else if r.kind = 13 then decide (-99 ≤ r.n) && (decide (r.n ≤ 99) && (decide (-99 ≤ r.m) && decide (r.m ≤ 99)))
 else true
def mdIs (r : Md) : Bool := decide (1 ≤ r.kind) && (decide (r.kind ≤ 14) && (mdEq r (usedM r) && mdNums r))
def mdBody (r : Md) : Str :=
 if r.kind = 1 then controlV else if r.kind = 2 then typesV ++ 61 :: typesText r.n.toNat else if r.kind = 3 then typesPV ++ 61 :: typesText r.n.toNat
 else if r.kind = 4 then subV ++ 61 :: L r.sub else if r.kind = 5 then subPV ++ 61 :: L r.sub
 else if r.kind = 6 then colorsV ++ 61 :: colorText r.n.toNat else if r.kind = 7 then colorsPV ++ 61 :: colorText r.n.toNat
 else if r.kind = 8 then keysPV ++ 61 :: keyText r.n.toNat else if r.kind = 9 then keysMV ++ 61 :: keyText r.n.toNat
 else if r.kind = 10 then blankV else if r.kind = 11 then ptV ++ 61 :: (countPV ++ (textOf r.f ++ [41]))
 else if r.kind = 12 then ptV ++ 61 :: (Lib.itoa r.n ++ 47 :: Lib.itoa r.m) else if r.kind = 13 then ptPV ++ 61 :: (Lib.itoa r.n ++ 47 :: Lib.itoa r.m)
 else switchV
def mdText (r : Md) : Str := if mdIs r = true then mdBody r else []
def pointsM (s : Str) : Md :=
 if Lib.hasPrefix s countPV = true then ⟨11, 0, 0, ⟨#[]⟩, (parseS (Lib.trimSuffix (Lib.trimPrefix s countPV) [41])).getD zeroF⟩
 else ⟨12, (numOf (cutAt 47 s).1).getD 0, (numOf (cutAt 47 s).2).getD 0, ⟨#[]⟩, zeroF⟩
def optN (o : Option Nat) : Int := ((o.getD 0 : Nat) : Int)
def baseM (nm rest : Str) : Md :=
 if nm = typesV ∨ nm = typesPV then ⟨2, optN (ptOf rest), 0, ⟨#[]⟩, zeroF⟩
 else if nm = subV ∨ nm = subPV then ⟨4, 0, 0, B rest, zeroF⟩
 else if nm = colorsV ∨ nm = colorsPV then ⟨6, optN (pcOf rest), 0, ⟨#[]⟩, zeroF⟩
 else if nm = keysPV ∨ nm = keysMV then ⟨8, optN (pkOf rest), 0, ⟨#[]⟩, zeroF⟩
 else if nm = ptV ∨ nm = ptPV then pointsM rest
 else zeroM
def stepM (nm : Str) : Bool := nm == keysMV || (Lib.hasSuffix nm [43] && !(nm == keysPV))
def upM (r : Md) (b : Bool) : Md := if b = true then ⟨r.kind + 1, r.n, r.m, r.sub, r.f⟩ else r
def guessM (s : Str) : Md :=
 if s = controlV then ⟨1, 0, 0, ⟨#[]⟩, zeroF⟩ else if s = blankV then ⟨10, 0, 0, ⟨#[]⟩, zeroF⟩ else if s = switchV then ⟨14, 0, 0, ⟨#[]⟩, zeroF⟩
 else upM (baseM (cutAt 61 s).1 (cutAt 61 s).2) (stepM (cutAt 61 s).1)
def mdParse (s : Str) : Option Md := if mdIs (guessM s) = true ∧ mdText (guessM s) = s then some (guessM s) else none
theorem cutAt_eq (c : UInt8) : ∀ (l r : Str), c ∉ l → cutAt c (l ++ c :: r) = (l, r)
 | [], r, _ => by simp [cutAt]
 | x :: l, r, h => by
   have hx : ¬ (x == c) = true := fun e => h (by rw [eq_of_beq e]; exact .head _)
   rw [List.cons_append, cutAt, if_neg hx, cutAt_eq c l r (fun m => h (.tail _ m))]
theorem pt_types : ∀ k : Fin 64, 1 ≤ k.val → ptOf (typesText k.val) = some k.val := by decide +kernel
theorem pc_colors : ∀ k : Fin 32, pcOf (colorText k.val) = some k.val := by decide +kernel
theorem num_small : ∀ k : Fin 199, numOf (Lib.itoa ((k.val : Int) - 99)) = some ((k.val : Int) - 99) := by decide +kernel
theorem numOf_99 (n : Int) (h1 : -99 ≤ n) (h2 : n ≤ 99) : numOf (Lib.itoa n) = some n := by
 have := num_small ⟨(n + 99).toNat, by omega⟩
 simp only at this
 rwa [show (((n + 99).toNat : Nat) : Int) - 99 = n by omega] at this
theorem key_acc (a : Nat) : ∀ i, i < 17 → keyAcc (wd kwT i) 17 a = a ||| 2 ^ i
 | 0, _ => by kernel_rfl
 | 1, _ => by kernel_rfl
 | 2, _ => by kernel_rfl
 | 3, _ => by kernel_rfl
 | 4, _ => by kernel_rfl
 | 5, _ => by kernel_rfl
 | 6, _ => by kernel_rfl
 | 7, _ => by kernel_rfl
 | 8, _ => by kernel_rfl
 | 9, _ => by kernel_rfl
 | 10, _ => by kernel_rfl
 | 11, _ => by kernel_rfl
 | 12, _ => by kernel_rfl
 | 13, _ => by kernel_rfl
 | 14, _ => by kernel_rfl
 | 15, _ => by kernel_rfl
 | 16, _ => by kernel_rfl
 | n + 17, h => absurd h (by omega)
theorem keyParts_mask (m : Nat) (hm : m < 2 ^ 17) : ∀ k, k ≤ 31 → keyParts ((bitsUpto m k).map fun i => wd kwT i) = m % 2 ^ k
 | 0, _ => by simp [bitsUpto, keyParts, Nat.mod_one]
 | k + 1, hk => by
   have ih := keyParts_mask m hm k (by omega)
   cases hb : m.testBit k with
   | false => rw [bitsUpto_no hb, mod_bit_no hb]; exact ih
   | true =>
     have hkn : k < 17 := by
      rcases Nat.lt_or_ge k 17 with h' | h'
      ·exact h'
      ·rw [Nat.testBit_lt_two_pow (Nat.lt_of_lt_of_le hm (Nat.pow_le_pow_right (by omega) h'))] at hb; cases hb
     unfold keyParts at ih ⊢
     rw [bitsUpto_yes hb, mod_bit_yes hb, List.map_append, List.foldl_append, ih]
     simp only [List.map_cons, List.map_nil, List.foldl_cons, List.foldl_nil]
     exact key_acc _ k hkn
theorem keyParts_text (m : Nat) (hm : m < 2 ^ 17) : keyParts (maskWords kwT m) = m := by
 have h := keyParts_mask m hm 31 (Nat.le_refl _)
 rw [Nat.mod_eq_of_lt (Nat.lt_of_lt_of_le hm (Nat.pow_le_pow_right (by omega) (by omega)))] at h
 exact h
def plainP (l : Str) : Bool := l.all fun c => !(c.toNat == 43 || (c.toNat == 40 || (c.toNat == 41 || (c.toNat == 91 || c.toNat == 93))))
theorem spP_plain : ∀ (l cur r : Str), plainP l = true → splitAux 43 0 cur (l ++ 43 :: r) = (cur ++ l) :: splitAux 43 0 [] r
 | [], cur, r, _ => by
   have e : deeperN 0 (43 : UInt8).toNat = 0 := by decide
   rw [List.nil_append, splitAux, if_pos ⟨by decide, rfl⟩, e, List.append_nil]
 | c :: l, cur, r, h => by
   simp only [plainP, List.all_cons, Bool.and_eq_true, Bool.not_eq_true', Bool.or_eq_false_iff, beq_eq_false_iff_ne] at h
   obtain ⟨⟨h1, h2, h3, h4, h5⟩, hl⟩ := h
   have e : deeperN 0 c.toNat = 0 := by unfold deeperN; rw [if_neg (by omega), if_neg (by omega)]
   rw [List.cons_append, splitAux, if_neg (fun x => h1 x.1), e, spP_plain l _ r (by simpa [plainP] using hl)]; simp
theorem spP_last : ∀ (l cur : Str), plainP l = true → splitAux 43 0 cur l = [cur ++ l]
 | [], cur, _ => by rw [splitAux, List.append_nil]
 | c :: l, cur, h => by
   simp only [plainP, List.all_cons, Bool.and_eq_true, Bool.not_eq_true', Bool.or_eq_false_iff, beq_eq_false_iff_ne] at h
   obtain ⟨⟨h1, h2, h3, h4, h5⟩, hl⟩ := h
   have e : deeperN 0 c.toNat = 0 := by unfold deeperN; rw [if_neg (by omega), if_neg (by omega)]
   rw [splitAux, if_neg (fun x => h1 x.1), e, spP_last l _ (by simpa [plainP] using hl)]; simp
theorem spP_join : ∀ (l : List Str), l ≠ [] → (∀ x ∈ l, plainP x = true) → splitDep 43 (Lib.join l [43]) = l
 | [], h, _ => absurd rfl h
 | [a], _, h => by unfold splitDep; rw [Lib.join_one, spP_last a [] (h a (by simp))]; rfl
 | a :: b :: r, _, h => by
   have ih := spP_join (b :: r) (by simp) (fun x hx => h x (.tail _ hx))
   unfold splitDep at ih ⊢
   rw [join_cons2, List.append_assoc, List.singleton_append, spP_plain a [] _ (h a (by simp)), ih]; rfl
theorem mask_ne {T : List Str} {m : Nat} (h0 : m ≠ 0) (hm : m < 2 ^ 31) : maskWords T m ≠ [] := by
 intro h
 apply h0
 apply Nat.eq_of_testBit_eq
 intro i
 rw [Nat.zero_testBit]
 cases hb : m.testBit i
 ·rfl
 ·have hi : i < 31 := by
   rcases Nat.lt_or_ge i 31 with h' | h'
   ·exact h'
   ·rw [Nat.testBit_lt_two_pow (Nat.lt_of_lt_of_le hm (Nat.pow_le_pow_right (by omega) h'))] at hb; cases hb
  have : i ∈ bitsUpto m 31 := by unfold bitsUpto; simp [hi, hb]
  unfold maskWords at h
  rw [List.map_eq_nil_iff] at h
  rw [h] at this; cases this
theorem wd_plainP : ∀ i : Fin 17, plainP (wd kwT i.val) = true := by decide +kernel
theorem mask_plainP {m : Nat} (hm : m < 2 ^ 17) : ∀ x ∈ maskWords kwT m, plainP x = true := fun x hx => by
 obtain ⟨i, hi, rfl⟩ := List.mem_map.1 hx
 exact wd_plainP ⟨i, bits_lt hm hi⟩
theorem pk_keys (m : Nat) (hm : m < 2 ^ 17) : pkOf (keyText m) = some m := by
 by_cases h0 : m = 0
 ·subst h0; kernel_rfl
 have hne : maskWords kwT m ≠ [] := mask_ne h0 (Nat.lt_of_lt_of_le hm (Nat.pow_le_pow_right (by omega) (by omega)))
 have e : splitDep 43 (keyText m) = maskWords kwT m := by
  unfold keyText
  rw [if_neg h0, spP_join _ hne (mask_plainP hm)]
 unfold pkOf
 rw [e, keyParts_text m hm, if_pos rfl]
inductive MdForm : Md → Prop
 | control : MdForm ⟨1, 0, 0, ⟨#[]⟩, zeroF⟩
 | types2 (k : Nat) : 1 ≤ k → k ≤ 63 → MdForm ⟨2, k, 0, ⟨#[]⟩, zeroF⟩
 | types3 (k : Nat) : 1 ≤ k → k ≤ 63 → MdForm ⟨3, k, 0, ⟨#[]⟩, zeroF⟩
 | sub4 (s : ByteArray) : isSub (L s) = true → MdForm ⟨4, 0, 0, s, zeroF⟩
 | sub5 (s : ByteArray) : isSub (L s) = true → MdForm ⟨5, 0, 0, s, zeroF⟩
 | colors6 (k : Nat) : k ≤ 31 → MdForm ⟨6, k, 0, ⟨#[]⟩, zeroF⟩
 | colors7 (k : Nat) : 1 ≤ k → k ≤ 31 → MdForm ⟨7, k, 0, ⟨#[]⟩, zeroF⟩
 | keys8 (k : Nat) : 1 ≤ k → k ≤ 131071 → MdForm ⟨8, k, 0, ⟨#[]⟩, zeroF⟩
 | keys9 (k : Nat) : 1 ≤ k → k ≤ 131071 → MdForm ⟨9, k, 0, ⟨#[]⟩, zeroF⟩
 | blank : MdForm ⟨10, 0, 0, ⟨#[]⟩, zeroF⟩
 | count (f : Flt) : fltIs f = true → MdForm ⟨11, 0, 0, ⟨#[]⟩, f⟩
 | set12 (n m : Int) : 0 ≤ n → n ≤ 99 → 0 ≤ m → m ≤ 99 → MdForm ⟨12, n, m, ⟨#[]⟩, zeroF⟩
 | add13 (n m : Int) : -99 ≤ n → n ≤ 99 → -99 ≤ m → m ≤ 99 → MdForm ⟨13, n, m, ⟨#[]⟩, zeroF⟩
 | switch : MdForm ⟨14, 0, 0, ⟨#[]⟩, zeroF⟩
theorem md_form {r : Md} (h : mdIs r = true) : MdForm r := by
 obtain ⟨k, n, m, s, f⟩ := r
 unfold mdIs at h
 simp only [Bool.and_eq_true, decide_eq_true_eq] at h
 obtain ⟨k1, k14, he, hn⟩ := h
 have he := (mdEq_iff _ _).1 he
 unfold usedM at he
 simp only [Md.mk.injEq, true_and] at he
 obtain ⟨e1, e2, e3, e4⟩ := he
 unfold mdNums at hn
 have hk : k = 1 ∨ k = 2 ∨ k = 3 ∨ k = 4 ∨ k = 5 ∨ k = 6 ∨ k = 7 ∨ k = 8 ∨ k = 9 ∨ k = 10 ∨ k = 11 ∨ k = 12 ∨ k = 13 ∨ k = 14 := by omega
 clear k1 k14
 rcases hk with rfl | rfl | rfl | rfl | rfl | rfl | rfl | rfl | rfl | rfl | rfl | rfl | rfl | rfl
 all_goals simp [usesN] at e1 e2 e3 e4 hn
 ·subst e1 e2 e3 e4; exact .control
 ·subst e2 e3 e4; obtain ⟨j, rfl⟩ : ∃ j : Nat, n = j := ⟨n.toNat, by omega⟩; exact .types2 j (by omega) (by omega)
 ·subst e2 e3 e4; obtain ⟨j, rfl⟩ : ∃ j : Nat, n = j := ⟨n.toNat, by omega⟩; exact .types3 j (by omega) (by omega)
 ·subst e1 e2 e4; exact .sub4 s hn
 ·subst e1 e2 e4; exact .sub5 s hn
 ·subst e2 e3 e4; obtain ⟨j, rfl⟩ : ∃ j : Nat, n = j := ⟨n.toNat, by omega⟩; exact .colors6 j (by omega)
 ·subst e2 e3 e4; obtain ⟨j, rfl⟩ : ∃ j : Nat, n = j := ⟨n.toNat, by omega⟩; exact .colors7 j (by omega) (by omega)
 ·subst e2 e3 e4; obtain ⟨j, rfl⟩ : ∃ j : Nat, n = j := ⟨n.toNat, by omega⟩; exact .keys8 j (by omega) (by omega)
 ·subst e2 e3 e4; obtain ⟨j, rfl⟩ : ∃ j : Nat, n = j := ⟨n.toNat, by omega⟩; exact .keys9 j (by omega) (by omega)
 ·subst e1 e2 e3 e4; exact .blank
 ·subst e1 e2 e3; exact .count f hn
 ·subst e3 e4; exact .set12 n m (by omega) (by omega) (by omega) (by omega)
 ·subst e3 e4; exact .add13 n m (by omega) (by omega) (by omega) (by omega)
 ·subst e1 e2 e3 e4; exact .switch
theorem guess_cut (nm rest : Str) (h : (61 : UInt8) ∉ nm) (h1 : nm ++ 61 :: rest ≠ controlV) (h2 : nm ++ 61 :: rest ≠ blankV) (h3 : nm ++ 61 :: rest ≠ switchV) : guessM (nm ++ 61 :: rest) = upM (baseM nm rest) (stepM nm) := by
 unfold guessM
 rw [if_neg h1, if_neg h2, if_neg h3, cutAt_eq 61 nm rest h]
theorem no_eq {nm rest : Str} {v : Str} (hv : (61 : UInt8) ∉ v) : nm ++ 61 :: rest ≠ v := fun e => hv (by rw [← e]; simp)
theorem guess_nm (nm rest : Str) (h : (61 : UInt8) ∉ nm) : guessM (nm ++ 61 :: rest) = upM (baseM nm rest) (stepM nm) :=
 guess_cut nm rest h (no_eq (by decide)) (no_eq (by decide)) (no_eq (by decide))
theorem itoa_no47 (n : Int) : (47 : UInt8) ∉ Lib.itoa n := fun h => by rcases itoa_mem h with h | h <;> simp at h
theorem itoa_nocount (n : Int) (r : Str) : Lib.hasPrefix (Lib.itoa n ++ 47 :: r) countPV = false := by
 cases h : Lib.itoa n with
 | nil => rfl
 | cons c l =>
   have hc := itoa_mem (v := n) (c := c) (by rw [h]; exact .head _)
   unfold Lib.hasPrefix countPV
   rw [List.cons_append, List.isPrefixOf]
   have : ((99 : UInt8) == c) = false := by
    rw [beq_eq_false_iff_ne]; intro e; subst e; simp at hc
   rw [this]; rfl
theorem points_nums (n m : Int) (h1 : -99 ≤ n) (h2 : n ≤ 99) (h3 : -99 ≤ m) (h4 : m ≤ 99) : pointsM (Lib.itoa n ++ 47 :: Lib.itoa m) = ⟨12, n, m, ⟨#[]⟩, zeroF⟩ := by
 unfold pointsM
 rw [itoa_nocount, if_neg (by decide), cutAt_eq 47 _ _ (itoa_no47 n)]
 simp only
 rw [numOf_99 n h1 h2, numOf_99 m h3 h4]; rfl
theorem points_count (f : Flt) (h : fltIs f = true) : pointsM (countPV ++ (textOf f ++ [41])) = ⟨11, 0, 0, ⟨#[]⟩, f⟩ := by
 have h1 : Lib.hasPrefix (countPV ++ (textOf f ++ [41])) countPV = true := by unfold Lib.hasPrefix; simp [List.isPrefixOf, countPV]
 have h2 : Lib.trimPrefix (countPV ++ (textOf f ++ [41])) countPV = textOf f ++ [41] := by unfold Lib.trimPrefix; rw [if_pos h1]; simp [countPV]
 unfold pointsM
 rw [if_pos h1, h2, trim_snoc, parse_text h]; rfl
theorem guessM_text {r : Md} (h : mdIs r = true) : guessM (mdText r) = r := by
 rw [show mdText r = mdBody r from if_pos h]
 cases md_form h with
 | control => kernel_rfl
 | types2 k h1 h2 =>
   show guessM (typesV ++ 61 :: typesText k) = _
   rw [guess_nm _ _ (by decide), show stepM typesV = false by decide]
   unfold baseM
   rw [if_pos (by decide), pt_types ⟨k, by omega⟩ h1]; rfl
 | types3 k h1 h2 =>
   show guessM (typesPV ++ 61 :: typesText k) = _
   rw [guess_nm _ _ (by decide), show stepM typesPV = true by decide]
   unfold baseM
   rw [if_pos (by decide), pt_types ⟨k, by omega⟩ h1]; rfl
 | sub4 s hs =>
   show guessM (subV ++ 61 :: L s) = _
   rw [guess_nm _ _ (by decide), show stepM subV = false by decide]
   unfold baseM
   rw [if_neg (by decide), if_pos (by decide), B_L]; rfl
 | sub5 s hs =>
   show guessM (subPV ++ 61 :: L s) = _
   rw [guess_nm _ _ (by decide), show stepM subPV = true by decide]
   unfold baseM
   rw [if_neg (by decide), if_pos (by decide), B_L]; rfl
 | colors6 k h1 =>
   show guessM (colorsV ++ 61 :: colorText k) = _
   rw [guess_nm _ _ (by decide), show stepM colorsV = false by decide]
   unfold baseM
   rw [if_neg (by decide), if_neg (by decide), if_pos (by decide), pc_colors ⟨k, by omega⟩]; rfl
 | colors7 k h1 h2 =>
   show guessM (colorsPV ++ 61 :: colorText k) = _
   rw [guess_nm _ _ (by decide), show stepM colorsPV = true by decide]
   unfold baseM
   rw [if_neg (by decide), if_neg (by decide), if_pos (by decide), pc_colors ⟨k, by omega⟩]; rfl
 | keys8 k h1 h2 =>
   show guessM (keysPV ++ 61 :: keyText k) = _
   rw [guess_nm _ _ (by decide), show stepM keysPV = false by decide]
   unfold baseM
   rw [if_neg (by decide), if_neg (by decide), if_neg (by decide), if_pos (by decide), pk_keys k (by omega)]; rfl
 | keys9 k h1 h2 =>
   show guessM (keysMV ++ 61 :: keyText k) = _
   rw [guess_nm _ _ (by decide), show stepM keysMV = true by decide]
   unfold baseM
   rw [if_neg (by decide), if_neg (by decide), if_neg (by decide), if_pos (by decide), pk_keys k (by omega)]; rfl
 | blank => kernel_rfl
 | count f hf =>
   show guessM (ptV ++ 61 :: (countPV ++ (textOf f ++ [41]))) = _
   rw [guess_nm _ _ (by decide), show stepM ptV = false by decide]
   unfold baseM
   rw [if_neg (by decide), if_neg (by decide), if_neg (by decide), if_neg (by decide), if_pos (by decide), points_count f hf]; rfl
 | set12 n m h1 h2 h3 h4 =>
   show guessM (ptV ++ 61 :: (Lib.itoa n ++ 47 :: Lib.itoa m)) = _
   rw [guess_nm _ _ (by decide), show stepM ptV = false by decide]
   unfold baseM
   rw [if_neg (by decide), if_neg (by decide), if_neg (by decide), if_neg (by decide), if_pos (by decide), points_nums n m (by omega) h2 (by omega) h4]; rfl
 | add13 n m h1 h2 h3 h4 =>
   show guessM (ptPV ++ 61 :: (Lib.itoa n ++ 47 :: Lib.itoa m)) = _
   rw [guess_nm _ _ (by decide), show stepM ptPV = true by decide]
   unfold baseM
   rw [if_neg (by decide), if_neg (by decide), if_neg (by decide), if_neg (by decide), if_pos (by decide), points_nums n m h1 h2 h3 h4]; rfl
 | switch => kernel_rfl
theorem mdText_no {r : Md} (h : mdIs r = false) : mdText r = [] := if_neg (by rw [h]; decide)
theorem mdParse_text {r : Md} (h : mdIs r = true) : mdParse (mdText r) = some r := by
 unfold mdParse; rw [guessM_text h]; exact if_pos ⟨h, rfl⟩
theorem mdParse_back {s : Str} {r : Md} (h : mdParse s = some r) : mdIs r = true ∧ mdText r = s := by
 unfold mdParse at h
 split at h
 ·rename_i hh; injection h with h; subst h; exact hh
 ·cases h
def commaV : Str := [44, 32]
def csAux : Bool → Str → Str → List Str
 | _, cur, [] => [cur]
 | true, cur, _ :: r => csAux false cur r
 | false, cur, c :: r => if c = 44 ∧ r.head? = some 32 then cur :: csAux true [] r else csAux false (cur ++ [c]) r
def csplit (s : Str) : List Str := csAux false [] s
theorem csAux_sep (cur r : Str) : csAux false cur (44 :: 32 :: r) = cur :: csAux false [] r := by
 rw [csAux, if_pos ⟨rfl, rfl⟩, csAux]
theorem csAux_move (c : UInt8) (cur r : Str) (h : ¬ (c = 44 ∧ r.head? = some 32)) : csAux false cur (c :: r) = csAux false (cur ++ [c]) r := by
 rw [csAux, if_neg h]
theorem csAux_word : ∀ (x cur r : Str), (44 : UInt8) ∉ x → csAux false cur (x ++ 44 :: 32 :: r) = (cur ++ x) :: csAux false [] r
 | [], cur, r, _ => by rw [List.nil_append, csAux_sep, List.append_nil]
 | c :: x, cur, r, h => by
   rw [List.cons_append, csAux_move _ _ _ (fun e => h (by rw [← e.1]; exact .head _)), csAux_word x _ r (fun m => h (.tail _ m))]; simp
theorem csAux_last : ∀ (x cur : Str), (44 : UInt8) ∉ x → csAux false cur x = [cur ++ x]
 | [], cur, _ => by rw [csAux, List.append_nil]
 | c :: x, cur, h => by
   rw [csAux_move _ _ _ (fun e => h (by rw [← e.1]; exact .head _)), csAux_last x _ (fun m => h (.tail _ m))]; simp
theorem csplit_join : ∀ (l : List Str), l ≠ [] → (∀ x ∈ l, (44 : UInt8) ∉ x) → csplit (Lib.join l commaV) = l
 | [], h, _ => absurd rfl h
 | [a], _, h => by unfold csplit; rw [Lib.join_one, csAux_last a [] (h a (by simp))]; rfl
 | a :: b :: r, _, h => by
   have ih := csplit_join (b :: r) (by simp) (fun x hx => h x (.tail _ hx))
   unfold csplit at ih ⊢
   rw [join_cons2, List.append_assoc, show commaV ++ Lib.join (b :: r) commaV = 44 :: 32 :: Lib.join (b :: r) commaV from rfl, csAux_word a [] _ (h a (by simp)), ih]; rfl
theorem csAux_ne : ∀ (s cur : Str) (b : Bool), csAux b cur s ≠ []
 | [], cur, b => by cases b <;> simp [csAux]
 | c :: r, cur, true => by rw [csAux]; exact csAux_ne r cur false
 | c :: r, cur, false => by
   rw [csAux]; split
   ·simp
   ·exact csAux_ne r _ false
theorem join_csAux : ∀ (n : Nat) (s cur : Str), s.length ≤ n → Lib.join (csAux false cur s) commaV = cur ++ s
 | _, [], cur, _ => by rw [csAux, Lib.join_one, List.append_nil]
 | 0, c :: r, cur, h => by simp at h
 | n + 1, c :: r, cur, h => by
   by_cases hc : c = 44 ∧ r.head? = some 32
   ·obtain ⟨rfl, hr⟩ := hc
    cases r with
    | nil => cases hr
    | cons d r =>
      obtain rfl : d = 32 := by simpa using hr
      rw [csAux_sep]
      have ih := join_csAux n r [] (by simp at h ⊢; omega)
      cases hl : csAux false [] r with
      | nil => exact absurd hl (csAux_ne r [] false)
      | cons b l => rw [hl] at ih; rw [join_cons2, ih]; simp [commaV]
   ·rw [csAux_move _ _ _ hc, join_csAux n r _ (by simp at h ⊢; omega)]; simp
theorem join_csplit (s : Str) : Lib.join (csplit s) commaV = s := by unfold csplit; rw [join_csAux s.length s [] (Nat.le_refl _)]; rfl
theorem csAux_mem : ∀ (s cur : Str) (b : Bool), ∀ x ∈ csAux b cur s, x.length ≤ cur.length + s.length
 | [], cur, b, x, h => by cases b <;> (simp [csAux] at h; subst h; simp)
 | c :: r, cur, true, x, h => by rw [csAux] at h; have := csAux_mem r cur false x h; simp; omega
 | c :: r, cur, false, x, h => by
   rw [csAux] at h
   split at h
   ·rcases List.mem_cons.1 h with rfl | h
    ·simp
    ·have := csAux_mem r [] true x h; simp at this ⊢; omega
   ·have := csAux_mem r _ false x h; simp at this ⊢; omega
def mlText (l : List Md) : Str := if l ≠ [] ∧ l.length ≤ 6 ∧ l.all mdIs = true then Lib.join (l.map mdText) commaV else []
def mlRun : List Md → List Str → Option (List Md)
 | out, [] => some out
 | out, p :: r => match mdParse p with
   | none => none
   | some m => if out.length = 6 then none else mlRun (out ++ [m]) r
def mlParse (s : Str) : Option (List Md) := mlRun [] (csplit s)
theorem mlRun_back : ∀ (ps : List Str) (out l : List Md), mlRun out ps = some l → out.length ≤ 6 → out.all mdIs = true → l.all mdIs = true ∧ l.length ≤ 6 ∧ l.map mdText = out.map mdText ++ ps
 | [], out, l, h, h6, ha => by
   rw [mlRun] at h; injection h with h; subst h; exact ⟨ha, h6, by simp⟩
 | p :: r, out, l, h, h6, ha => by
   rw [mlRun] at h
   cases hp : mdParse p with
   | none => rw [hp] at h; cases h
   | some m =>
     rw [hp] at h
     simp only at h
     split at h
     ·cases h
     ·obtain ⟨i, t⟩ := mdParse_back hp
      have ih := mlRun_back r _ l h (by simp; omega) (by simp only [List.all_append, ha, Bool.true_and, List.all_cons, i, List.all_nil, Bool.and_self])
      refine ⟨ih.1, ih.2.1, ?_⟩
      rw [ih.2.2, List.map_append, List.append_assoc]
      simp [t]
theorem mlRun_text : ∀ (l out : List Md), l.all mdIs = true → out.length + l.length ≤ 6 → mlRun out (l.map mdText) = some (out ++ l)
 | [], out, _, _ => by simp [mlRun]
 | m :: l, out, h, h6 => by
   simp only [List.all_cons, Bool.and_eq_true] at h
   simp only [List.length_cons] at h6
   rw [List.map_cons, mlRun, mdParse_text h.1]
   simp only
   rw [if_neg (by omega), mlRun_text l _ h.2 (by simp; omega)]; simp
theorem ty_no44 : ∀ k : Fin 64, (44 : UInt8) ∉ typesText k.val := by decide +kernel
theorem co_no44 : ∀ k : Fin 32, (44 : UInt8) ∉ colorText k.val := by decide +kernel
theorem kw_no44 : ∀ i : Fin 17, (44 : UInt8) ∉ wd kwT i.val := by decide +kernel
theorem ke_no44 {m : Nat} (hm : m < 2 ^ 17) : (44 : UInt8) ∉ keyText m := by
 unfold keyText
 split
 ·decide
 ·intro h
  rcases join_mem h with ⟨w, hw, hc⟩ | hc
  ·obtain ⟨i, hi, rfl⟩ := List.mem_map.1 hw
   exact kw_no44 ⟨i, bits_lt hm hi⟩ hc
  ·simp at hc
theorem itoa_no44 (n : Int) : (44 : UInt8) ∉ Lib.itoa n := fun h => by rcases itoa_mem h with h | h <;> simp at h
theorem text_no44 (f : Flt) : (44 : UInt8) ∉ textOf f := fun h => by rcases textOf_mem h with h | h <;> revert h <;> decide
theorem mdText_no44 {r : Md} (h : mdIs r = true) : (44 : UInt8) ∉ mdText r := by
 rw [show mdText r = mdBody r from if_pos h]
 cases md_form h with
 | control => decide
 | types2 k h1 h2 =>
   show (44 : UInt8) ∉ typesV ++ 61 :: typesText k
   have := ty_no44 ⟨k, by omega⟩
   simp [typesV]; exact this
 | types3 k h1 h2 =>
   show (44 : UInt8) ∉ typesPV ++ 61 :: typesText k
   have := ty_no44 ⟨k, by omega⟩
   simp [typesPV]; exact this
 | sub4 s hs =>
   show (44 : UInt8) ∉ subV ++ 61 :: L s
   have := (isSub_noB hs).no (c := 44) (by decide)
   simp [subV]; exact this
 | sub5 s hs =>
   show (44 : UInt8) ∉ subPV ++ 61 :: L s
   have := (isSub_noB hs).no (c := 44) (by decide)
   simp [subPV]; exact this
 | colors6 k h1 =>
   show (44 : UInt8) ∉ colorsV ++ 61 :: colorText k
   have := co_no44 ⟨k, by omega⟩
   simp [colorsV]; exact this
 | colors7 k h1 h2 =>
   show (44 : UInt8) ∉ colorsPV ++ 61 :: colorText k
   have := co_no44 ⟨k, by omega⟩
   simp [colorsPV]; exact this
 | keys8 k h1 h2 =>
   show (44 : UInt8) ∉ keysPV ++ 61 :: keyText k
   have := ke_no44 (m := k) (by omega)
   simp [keysPV]; exact this
 | keys9 k h1 h2 =>
   show (44 : UInt8) ∉ keysMV ++ 61 :: keyText k
   have := ke_no44 (m := k) (by omega)
   simp [keysMV]; exact this
 | blank => decide
 | count f hf =>
   show (44 : UInt8) ∉ ptV ++ 61 :: (countPV ++ (textOf f ++ [41]))
   have := text_no44 f
   simp [ptV, countPV]; exact this
 | set12 n m h1 h2 h3 h4 =>
   show (44 : UInt8) ∉ ptV ++ 61 :: (Lib.itoa n ++ 47 :: Lib.itoa m)
   have a := itoa_no44 n
   have b := itoa_no44 m
   simp [ptV]; exact ⟨a, b⟩
 | add13 n m h1 h2 h3 h4 =>
   show (44 : UInt8) ∉ ptPV ++ 61 :: (Lib.itoa n ++ 47 :: Lib.itoa m)
   have a := itoa_no44 n
   have b := itoa_no44 m
   simp [ptPV]; exact ⟨a, b⟩
 | switch => decide
theorem mlParse_text {l : List Md} (h0 : l ≠ []) (h6 : l.length ≤ 6) (h : l.all mdIs = true) : mlParse (mlText l) = some l := by
 unfold mlText
 rw [if_pos ⟨h0, h6, h⟩]
 unfold mlParse
 rw [csplit_join _ (by simpa using h0) (fun x hx => by
  obtain ⟨m, hm, rfl⟩ := List.mem_map.1 hx
  exact mdText_no44 (List.all_eq_true.1 h m hm)), mlRun_text l [] h (by simpa using h6)]; rfl
theorem mlParse_back {s : Str} {l : List Md} (h : mlParse s = some l) : l ≠ [] ∧ l.length ≤ 6 ∧ l.all mdIs = true ∧ mlText l = s := by
 unfold mlParse at h
 obtain ⟨a, b, c⟩ := mlRun_back _ _ _ h (by simp) rfl
 simp only [List.map_nil, List.nil_append] at c
 have hne : l ≠ [] := fun e => by
  subst e
  exact csAux_ne s [] false c.symm
 refine ⟨hne, b, a, ?_⟩
 unfold mlText
 rw [if_pos ⟨hne, b, a⟩, c, join_csplit]
theorem mlText_ne {l : List Md} (h : mlText l ≠ []) : l ≠ [] ∧ l.length ≤ 6 ∧ l.all mdIs = true := by
 unfold mlText at h
 split at h
 ·assumption
 ·exact absurd rfl h
theorem comma_pre (c : UInt8) (r : Str) : commaV.isPrefixOf (c :: r) = (c == 44 && r.head? == some 32) := by
 cases r with
 | nil => simp [commaV, List.isPrefixOf]
 | cons d r =>
   rw [Bool.eq_iff_iff]
   simp [commaV]
   constructor
   ·rintro ⟨h1, h2⟩; exact ⟨h1.symm, h2.symm⟩
   ·rintro ⟨h1, h2⟩; exact ⟨h1.symm, h2.symm⟩
theorem cs_idx : ∀ (s cur : Str), (Lib.index s commaV = -1 ∧ csAux false cur s = [cur ++ s]) ∨ (∃ i : Nat, Lib.index s commaV = i ∧ i + 2 ≤ s.length ∧ csAux false cur s = (cur ++ s.take i) :: csAux false [] (s.drop (i + 2)))
 | [], cur => .inl ⟨rfl, by rw [csAux, List.append_nil]⟩
 | c :: r, cur => by
   by_cases h : c = 44 ∧ r.head? = some 32
   ·obtain ⟨rfl, hr⟩ := h
    cases r with
    | nil => cases hr
    | cons d r =>
      obtain rfl : d = 32 := by simpa using hr
      refine .inr ⟨0, ?_, by simp, ?_⟩
      ·unfold Lib.index
       rw [comma_pre]; rfl
      ·rw [csAux_sep]; simp
   ·have hp : commaV.isPrefixOf (c :: r) = false := by
     rw [comma_pre]
     cases hb : (c == 44 && r.head? == some 32) with
     | false => rfl
     | true => simp only [Bool.and_eq_true, beq_iff_eq] at hb; exact absurd hb h
    rw [csAux_move _ _ _ h]
    unfold Lib.index
    rw [hp, if_neg (by decide)]
    rcases cs_idx r (cur ++ [c]) with ⟨h1, h2⟩ | ⟨i, h1, h2, h3⟩
    ·left; rw [h1, h2]; simp
    ·right
     refine ⟨i + 1, ?_, by simp; omega, ?_⟩
     ·rw [h1, if_neg (by rw [beq_iff_eq]; omega)]; simp
     ·rw [h3]; simp
theorem csplit_idx (s : Str) : (Lib.index s commaV = -1 ∧ csplit s = [s]) ∨ (∃ i : Nat, Lib.index s commaV = i ∧ i + 2 ≤ s.length ∧ csplit s = s.take i :: csplit (s.drop (i + 2))) := by
 have := cs_idx s []
 simpa [csplit] using this
theorem textOf_len {f : Flt} : (textOf f).length ≤ 1000000 := by
 unfold textOf; split
 ·rename_i h
  obtain ⟨_, hok⟩ := fltIs_fn h
  unfold fltText; split
  ·decide
  ·have hs : (toFN f).sub.length ≤ 32 := by
    rcases hok.sub with e | e
    ·rw [e]; simp
    ·exact isSub_len e
   have := fltJoin_len (toFN f) hs hok.pn hok.tn hok.vn
   omega
 ·decide
def rkHit (rest : Str) (i : Nat) : Bool := Lib.hasPrefix rest (wd kwT i) && (rest.length == (wd kwT i).length || rest.getD (wd kwT i).length 0 == 43)
def rkStep (st : Nat × Str) (i : Nat) : Nat × Str := if rkHit st.2 i = true then (st.1 + 2 ^ i, (st.2.drop (wd kwT i).length).drop 1) else st
def rkFold (s : Str) (k : Nat) : Nat × Str := (List.range k).foldl rkStep (0, s)
def rkOf (s : Str) : Option Nat := if s = noneW then some 0 else if keyText (rkFold s 17).1 = s then some (rkFold s 17).1 else none
theorem wd_ne0 : ∀ i : Fin 17, wd kwT i.val ≠ [] := by decide +kernel
theorem wpList_build1a {P : Program} {ops : Array Oper} {rest : List Oper} {o : Oper} {a : Act} {w : World} {Q : Exit → Act → World → Prop} (hgd : o.guard = none) (ty : TypeId) (i : Nat) (x : Operand) (ho : o.op = .build ty #[(i, x)])
 (p v : Value) (hx : a.eval x = p) (hv : (Instr.build ty #[(i, p)]).run P w = .ok v w) (h : wpList P ops Q rest (a.put o.dst v) w) : wpList P ops Q (o :: rest) a w :=
 wpList_plain hgd fun _ hK => by
  unfold Oper.wp execOp
  simp only [ho, List.map_toArray, List.map_cons, List.map_nil, hx, Sem.run_bind, hv, Sem.run_pure, Result.andThen_ok]
  exact hK _ _ h
theorem number_is (s : ByteArray) (n : Int) (b : Bool) (h : Hid (numRet (numOf (L s)) = .tuple #[.int .i64 n, .bool b])) (hs : s.size < 4294967281) (w : World) (hl : LaidM w) : Calls Tryz.prog 179 #[.string s] w fun e w' => e = .returned (.tuple #[.int .i64 n, .bool b]) ∧ Below w.heap.size w w' :=
 (number_any s w hl.base hs).mono fun e w' h' => ⟨by rw [h'.1, h.out], h'.2⟩
theorem cutPreM_is (s p : ByteArray) (w : World) (pl : Str) (hp : L p = pl) (r : Str) (b : Bool) (h : Hid (Lib.trimPrefix (L s) pl = r ∧ Lib.hasPrefix (L s) pl = b)) :
 Calls Tryz.prog 177 #[.string s, .string p] w fun e w' => e = .returned (.tuple #[.string (B r), .bool b]) ∧ w = w' :=
 (cutPrefix_any s p w pl hp).mono fun e w' h' => ⟨by rw [h'.1, h.out.1, h.out.2], h'.2⟩
theorem trimSufM_is (s p : ByteArray) (w : World) (hs : s.size < 1000000000) (pl : Str) (hp : L p = pl) (r : Str) (h : Hid (Lib.trimSuffix (L s) pl = r)) :
 Calls Tryz.prog 180 #[.string s, .string p] w fun e w' => e = .returned (.string (B r)) ∧ w = w' := by
 subst hp
 exact (Tryz.strings_TrimSuffix s p w (by omega)).mono fun _ _ h' => ⟨h'.1.trans (by rw [← h.out]; rfl), h'.2.symm⟩
end Go.Proofs.YtdnnbfbhifelkaaGreatDoor
