/- Plain words on memory: a struct in the middle of a row, loaded and stored; triggers' rows and ==; what chapter 18 is given. Conditions: none. -/
import Derived.Test.YtnibonmeihdjbaaGreatDoorTPure
import Derived.Test.YtnibonmeihdjbaaGreatDoorFil
import Derived.Deep.MidRow
import Derived.Laws.CopyRow
namespace Go.Proofs.YtnibonmeihdjbaaGreatDoor
set_option linter.all false
open Go.ChangeShapes Go.WideShapes Go.RowKit
theorem wpList_load_part {P : Program} {ops : Array Oper} {rest : List Oper} {o : Oper} {a : Act} {w : World} {Q : Exit → Act → World → Prop} (hw : Region.wanted o (yielded ops a.tmps) = true) (ty : TypeId) (x : Operand) (ho : o.op = .load ty x)
    (g off : Nat) (hx : a.eval x = .pointer (some ⟨g, off, none⟩)) (t : TypeId) (cs ds : Array Value) (fr : Nat × Nat) (d : TypeDesc) (hg : w.heap[g]? = some (.cells cs t fr)) (hp : ∀ j v, ds[j]? = some v → cs[off + j]? = some v)
    (hu : P.underlying ty = some d) (hd : d.isRow = true) (hi : (P.info? ty).map (·.size) = some ds.size)
    (h : wpList P ops Q rest (a.put o.dst (.agg ds)) w) : wpList P ops Q (o :: rest) a w := by
  unfold wpList
  rw [if_pos hw]
  refine .inl (wp_load_mid ty x ho g off hx ds.toList d ?_ hu hd (by simpa using hi) (by simpa using h))
  intro j v hv
  rw [cell_of_row w g (off + j) cs t fr hg]
  exact hp j v (by simpa using hv)
theorem wpList_store_part {P : Program} {ops : Array Oper} {rest : List Oper} {o : Oper} {a : Act} {w : World} {Q : Exit → Act → World → Prop} (hgd : o.guard = none) (ty : TypeId) (x y : Operand) (ho : o.op = .store ty x y)
    (g off : Nat) (t : TypeId) (cs ds new : Array Value) (hx : a.eval x = .pointer (some ⟨g, off, none⟩)) (hy : a.eval y = .agg ds) (hg : w.heap[g]? = some (.cells cs t (0, 0))) (hfit : off + ds.size ≤ cs.size)
    (hnew : cs.toList.take off ++ ds.toList ++ cs.toList.drop (off + ds.size) = new.toList) (hi : (P.info? ty).map (·.size) = some ds.size) (h1 : ds.all (·.oneCell') = true)
    (h : wpList P ops Q rest (a.put o.dst undef) (w.setRow g new)) : wpList P ops Q (o :: rest) a w :=
  wpList_plain hgd fun _ hK => by
    have hst := run_storeCells_at P g off t ds.toList 0 cs w hg (by simpa using hfit) (fun v hv => (Array.all_eq_true_iff_forall_mem.1 h1) v (by simpa using hv))
    have e : (cs.toList.take (off + 0) ++ ds.toList ++ cs.toList.drop (off + 0 + ds.toList.length)).toArray = new := by
      rw [Nat.add_zero, Array.length_toList, hnew]
    rw [e] at hst
    have hs : (storeVar ty ⟨g, off, none⟩ (.agg ds)).run P w = .ok () (w.setRow g new) := by
      cases hq : P.info? ty with
      | none => simp [hq] at hi
      | some i =>
        have hs : ds.size = i.size := by simp [hq] at hi; omega
        simp [storeVar, sizeOf, typeInfo, hq, Value.cells, hs, hst]
    unfold Oper.wp execOp
    simp only [ho, hx, hy, Instr.storeAt, Instr.sureAddr, Sem.run_bind, Sem.run_pure, Result.andThen_ok, hs]
    exact hK _ _ h
abbrev TTg : Nat := 27
theorem infoTTg : (Tryz.prog.info? TTg).map (·.size) = some 18 := by kernel_rfl
theorem tcells_one (r : Tg) : r.cells.all (·.oneCell') = true := by simp [Tg.cells, Value.oneCell']
theorem tg_split (r : Tg) : r.cells = #[.int .i64 r.k, .int .i64 r.who] ++ r.f.cells := by simp [Tg.cells, Flt.cells]
theorem tg_part (r : Tg) : ∀ j v, r.f.cells[j]? = some v → r.cells[2 + j]? = some v := by
  intro j v h
  rw [tg_split, Array.getElem?_append_right (by simp)]
  simpa using h
theorem tg_put (r : Tg) (f : Flt) : r.cells.toList.take 2 ++ f.cells.toList ++ r.cells.toList.drop (2 + f.cells.size) = (Tg.cells ⟨r.k, r.who, f⟩).toList := by simp [Tg.cells, Flt.cells]
def tgEq (r q : Tg) : Bool := r.k == q.k && (r.who == q.who && fltEq r.f q.f)
theorem tgEq_iff (r q : Tg) : tgEq r q = true ↔ r = q := by
  obtain ⟨a, b, f⟩ := r
  obtain ⟨a2, b2, f2⟩ := q
  simp only [tgEq, Bool.and_eq_true, beq_iff_eq, fltEq_iff, Tg.mk.injEq]
theorem tgEq_refl (r : Tg) : tgEq r r = true := (tgEq_iff r r).2 rfl
theorem Tryz.fieldsF : Tryz.prog.underlying 25 = some (.struct (Tryz.prog.fieldsOf 25)) := by kernel_rfl
theorem Tryz.stoodF : Tryz.prog.stoodInHeld 25 = false := by kernel_rfl
set_option maxRecDepth 100000 in
/-- The model's == of two triggers. -/
theorem eq_tg (r q : Tg) (w : World) : (binOp .eql 27 (.agg r.cells) (.agg q.cells)).run Tryz.prog w = .ok (.bool (tgEq r q)) w := by
  rw [run_eql_struct, run_equalIn_agg w 9999 27 _ _ (by kernel_rfl) (by kernel_rfl)]
  simp [tgEq, fltEq, Tg.cells, go_sem, Tryz.underlying27, Tryz.fieldsF, Tryz.stoodF, Tryz.underlying25, Tryz.underlying23, Tryz.underlying3, Tryz.underlying9]
  iterate 17 (refine ite_and_res (by simp) ?_)
  split
  · rename_i h; rw [h]; simp
  · rename_i h; rw [beq_eq_false_iff_ne.2 h]
theorem neq_tg (r q : Tg) (w : World) : (binOp .neq 27 (.agg r.cells) (.agg q.cells)).run Tryz.prog w = .ok (.bool (!tgEq r q)) w := by
  have h := eq_tg r q w
  rw [run_eql_struct] at h
  rw [run_neq_struct]
  generalize (Op.equalIn 10000 27 (.agg r.cells) (.agg q.cells)).run Tryz.prog w = x at *
  cases x <;> simp_all [Result.andThen]
/-- The variable verbs of package trigger. -/
def verbRow : Array Value := (verbT.map fun x => Value.string (B x)).toArray
structure LaidT (w : World) : Prop where
  base : Laid w
  verbs : ∃ ty fr, w.heap[(0 : Nat)]? = some (.cells verbRow ty fr)
theorem LaidT.below {w w' : World} (h : LaidT w) (hb : Below w.heap.size w w') : LaidT w' := ⟨h.base.below hb, by
  obtain ⟨ty, fr, hv⟩ := h.verbs
  exact ⟨ty, fr, blk_below2 hb hv⟩⟩
theorem LaidT.alloc {w : World} (h : LaidT w) (o : Obj) : LaidT (w.alloc o) := h.below ((Below.refl _ _).alloc (Nat.le_refl _) _)
theorem LaidT.verb {w : World} (h : LaidT w) {k : Nat} (hk : k < 15) : w.cell? ⟨(0 : Nat), k, none⟩ = some (.string (B (wd verbT k))) := by
  obtain ⟨ty, fr, hv⟩ := h.verbs
  rw [cell_of_row _ _ k _ _ _ hv]
  have hl : k < verbT.length := hk
  simp [verbRow, wd, List.getD, hl]
theorem tgWho_any (who : Int) (w : World) : Calls Tryz.prog 11 #[.int .i64 who] w fun e w' => e = .returned (.string (B (whoText who))) ∧ w = w' := by
  by_cases h0 : who = 0
  · subst h0
    go_enter Tryz.func11, Tryz.ntmps11
    go_wp2
    go_ret
    exact ⟨rfl, rfl⟩
  by_cases h1 : who = 1
  · subst h1
    go_enter Tryz.func11, Tryz.ntmps11
    go_wp2
    go_ret
    exact ⟨rfl, rfl⟩
  by_cases h2 : who = 2
  · subst h2
    go_enter Tryz.func11, Tryz.ntmps11
    go_wp2
    go_ret
    exact ⟨rfl, rfl⟩
  · have HR : Hid (whoText who = []) := Lib.hid (by unfold whoText; rw [if_neg h0, if_neg h1, if_neg h2])
    have t0 : (who == 0) = false := by simpa using h0
    have t1 : (who == 1) = false := by simpa using h1
    have t2 : (who == 2) = false := by simpa using h2
    generalize whoText who = R at *
    clear h0 h1 h2
    go_enter Tryz.func11, Tryz.ntmps11
    go_wp2
    go_ret
    exact ⟨ret_str (by rw [HR.out]; rfl), rfl⟩
theorem tgUses_any (k : Int) (h1 : 1 ≤ k) (h2 : k ≤ 14) (w : World) : Calls Tryz.prog 17 #[.int .i64 k] w fun e w' => e = .returned (.tuple #[.bool (usesW k), .bool (usesF k)]) ∧ w = w' := by
  have hc : k = 1 ∨ k = 2 ∨ k = 3 ∨ k = 4 ∨ k = 5 ∨ k = 6 ∨ k = 7 ∨ k = 8 ∨ k = 9 ∨ k = 10 ∨ k = 11 ∨ k = 12 ∨ k = 13 ∨ k = 14 := by omega
  clear h1 h2
  rcases hc with rfl | rfl | rfl | rfl | rfl | rfl | rfl | rfl | rfl | rfl | rfl | rfl | rfl | rfl
  all_goals
    go_enter Tryz.func17, Tryz.ntmps17
    go_wp2
    go_ret2
    exact ⟨rfl, rfl⟩
theorem tgUses_is (k : Int) (h1 : 1 ≤ k) (h2 : k ≤ 14) (u f : Bool) (h : Hid (usesW k = u ∧ usesF k = f)) (w : World) : Calls Tryz.prog 17 #[.int .i64 k] w fun e w' => e = .returned (.tuple #[.bool u, .bool f]) ∧ w = w' :=
  (tgUses_any k h1 h2 w).mono fun e w' h' => ⟨by rw [h'.1, h.out.1, h.out.2], h'.2⟩
theorem tgWho_is (who : Int) (R : ByteArray) (h : Hid (B (whoText who) = R)) (w : World) : Calls Tryz.prog 11 #[.int .i64 who] w fun e w' => e = .returned (.string R) ∧ w = w' :=
  (tgWho_any who w).mono fun e w' h' => ⟨by rw [h'.1, h.out], h'.2⟩
end Go.Proofs.YtnibonmeihdjbaaGreatDoor
