/- Loads, stores and builds of rows and parts of rows. Conditions: none. -/
import Derived.Test.YtakgfbcmkhcdkaaGreatDoorFil
import Derived.Deep.MidRow
import Derived.Laws.CopyRow
namespace Go.Proofs.YtakgfbcmkhcdkaaGreatDoor
set_option linter.all false
open Go.ChangeShapes Go.WideShapes Go.RowKit
theorem wpList_load_part {P : Program} {ops : Array Oper} {rest : List Oper} {o : Oper} {a : Act} {w : World} {Q : Exit → Act → World → Prop} (hw : Region.wanted o (yielded ops a.tmps) = true) (ty : TypeId) (x : Operand) (ho : o.op = .load ty x)
    (g off : Nat) (hx : a.eval x = .pointer (some ⟨g, off, none⟩)) (t : TypeId) (cs ds : Array Value) (fr : Nat × Nat) (d : TypeDesc) (hg : w.heap[g]? = some (.cells cs t fr)) (hp : ∀ j v, ds[j]? = some v → cs[off + j]? = some v)
    (hu : P.underlying ty = some d) (hd : d.isRow = true) (hi : (P.info? ty).map (·.size) = some ds.size)
    (h : wpList P ops Q rest (a.put o.dst (.agg ds)) w) : wpList P ops Q (o :: rest) a w := by
  unfold wpList
  rw [if_pos hw]
  refine .inl (wp_load_mid ty x ho g off hx ds.toList d ?_ hu hd (by simpa using hi) (by simpa using h))
  intro j v hv
  rw [cell_of_row w g (off + j) cs t fr hg]
  exact hp j v (by simpa using hv)
theorem wpList_store_part {P : Program} {ops : Array Oper} {rest : List Oper} {o : Oper} {a : Act} {w : World} {Q : Exit → Act → World → Prop} (hgd : o.guard = none) (ty : TypeId) (x y : Operand) (ho : o.op = .store ty x y)
    (g off : Nat) (t : TypeId) (cs ds new : Array Value) (hx : a.eval x = .pointer (some ⟨g, off, none⟩)) (hy : a.eval y = .agg ds) (hg : w.heap[g]? = some (.cells cs t (0, 0))) (hfit : off + ds.size ≤ cs.size)
    (hnew : cs.toList.take off ++ ds.toList ++ cs.toList.drop (off + ds.size) = new.toList) (hi : (P.info? ty).map (·.size) = some ds.size) (h1 : ds.all (·.oneCell') = true)
    (h : wpList P ops Q rest (a.put o.dst undef) (w.setRow g new)) : wpList P ops Q (o :: rest) a w :=
  wpList_plain hgd fun _ hK => by
    have hst := run_storeCells_at P g off t ds.toList 0 cs w hg (by simpa using hfit) (fun v hv => (Array.all_eq_true_iff_forall_mem.1 h1) v (by simpa using hv))
    have e : (cs.toList.take (off + 0) ++ ds.toList ++ cs.toList.drop (off + 0 + ds.toList.length)).toArray = new := by
      rw [Nat.add_zero, Array.length_toList, hnew]
    rw [e] at hst
    have hs : (storeVar ty ⟨g, off, none⟩ (.agg ds)).run P w = .ok () (w.setRow g new) := by
      cases hq : P.info? ty with
      | none => simp [hq] at hi
      | some i =>
        have hs : ds.size = i.size := by simp [hq] at hi; omega
        simp [storeVar, sizeOf, typeInfo, hq, Value.cells, hs, hst]
    unfold Oper.wp execOp
    simp only [ho, hx, hy, Instr.storeAt, Instr.sureAddr, Sem.run_bind, Sem.run_pure, Result.andThen_ok, hs]
    exact hK _ _ h
/-- A guarded operation that is not wanted. -/
theorem wpList_skip_eq {P : Program} {ops : Array Oper} {rest : List Oper} {o : Oper} {a : Act} {w : World} {Q : Exit → Act → World → Prop} (hw : Region.wanted o (yielded ops a.tmps) = false) : wpList P ops Q (o :: rest) a w = wpList P ops Q rest (a.put o.dst undef) w := by
  conv => lhs; unfold wpList
  rw [if_neg (by rw [hw]; simp)]
theorem wpList_build_g {P : Program} {ops : Array Oper} {rest : List Oper} {o : Oper} {a : Act} {w : World} {Q : Exit → Act → World → Prop} (hw : Region.wanted o (yielded ops a.tmps) = true) (ty : TypeId) (i j : Nat) (x y : Operand) (ho : o.op = .build ty #[(i, x), (j, y)])
    (p q v : Value) (hx : a.eval x = p) (hy : a.eval y = q) (hv : (Instr.build ty #[(i, p), (j, q)]).run P w = .ok v w) (h : wpList P ops Q rest (a.put o.dst v) w) : wpList P ops Q (o :: rest) a w := by
  unfold wpList
  rw [if_pos hw]
  refine .inl ?_
  unfold Oper.wp execOp
  simp only [ho, List.map_toArray, List.map_cons, List.map_nil, hx, hy, Sem.run_bind, hv, Sem.run_pure, Result.andThen_ok]
  exact h
theorem wpList_build0_g {P : Program} {ops : Array Oper} {rest : List Oper} {o : Oper} {a : Act} {w : World} {Q : Exit → Act → World → Prop} (hw : Region.wanted o (yielded ops a.tmps) = true) (ty : TypeId) (ho : o.op = .build ty #[])
    (v : Value) (hv : (Instr.build ty #[]).run P w = .ok v w) (h : wpList P ops Q rest (a.put o.dst v) w) : wpList P ops Q (o :: rest) a w := by
  unfold wpList
  rw [if_pos hw]
  refine .inl ?_
  unfold Oper.wp execOp
  simp only [ho, List.map_toArray, List.map_nil, Sem.run_bind, hv, Sem.run_pure, Result.andThen_ok]
  exact h
theorem wpList_store_int {P : Program} {ops : Array Oper} {rest : List Oper} {o : Oper} {a : Act} {w : World} {Q : Exit → Act → World → Prop} (hgd : o.guard = none) (ty : TypeId) (x y : Operand) (ho : o.op = .store ty x y)
    (g off : Nat) (t : TypeId) (cs new : Array Value) (kd : IntKind) (n : Int) (hx : a.eval x = .pointer (some ⟨g, off, none⟩)) (hy : a.eval y = .int kd n) (hg : w.heap[g]? = some (.cells cs t (0, 0))) (hfit : off + 1 ≤ cs.size)
    (hnew : cs.toList.take off ++ [Value.int kd n] ++ cs.toList.drop (off + 1) = new.toList) (hi : (P.info? ty).map (·.size) = some 1)
    (h : wpList P ops Q rest (a.put o.dst undef) (w.setRow g new)) : wpList P ops Q (o :: rest) a w :=
  wpList_plain hgd fun _ hK => by
    have hst := run_storeCells_at P g off t [.int kd n] 0 cs w hg (by simpa using hfit) (fun v hv => by rw [List.mem_singleton.1 hv]; rfl)
    have e : (cs.toList.take (off + 0) ++ [Value.int kd n] ++ cs.toList.drop (off + 0 + [Value.int kd n].length)).toArray = new := by
      rw [Nat.add_zero, List.length_singleton, hnew]
    rw [e] at hst
    have hs : (storeVar ty ⟨g, off, none⟩ (.int kd n)).run P w = .ok () (w.setRow g new) := by
      cases hq : P.info? ty with
      | none => simp [hq] at hi
      | some i =>
        have hs : i.size = 1 := by simpa [hq] using hi
        simp [storeVar, sizeOf, typeInfo, hq, Value.cells, hs, hst]
    unfold Oper.wp execOp
    simp only [ho, hx, hy, Instr.storeAt, Instr.sureAddr, Sem.run_bind, Sem.run_pure, Result.andThen_ok, hs]
    exact hK _ _ h
theorem infoInt1 : (Tryz.prog.info? 3).map (·.size) = some 1 := by kernel_rfl
theorem Tryz.fieldsF : Tryz.prog.underlying 25 = some (.struct (Tryz.prog.fieldsOf 25)) := by kernel_rfl
theorem Tryz.stoodF : Tryz.prog.stoodInHeld 25 = false := by kernel_rfl
end Go.Proofs.YtakgfbcmkhcdkaaGreatDoor
