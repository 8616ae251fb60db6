/- Plain words on memory: amounts' rows and ==; what chapter 14 is given; counters' names. Conditions: none. -/
import Derived.Test.YtcbegdjmopgbbaaGreatDoorMPure
import Derived.Test.YtcbegdjmopgbbaaGreatDoorFil
import Derived.Deep.MidRow
import Derived.Laws.CopyRow
namespace Go.Proofs.YtcbegdjmopgbbaaGreatDoor
set_option linter.all false
open Go.ChangeShapes Go.WideShapes Go.RowKit
theorem wpList_load_part {P : Program} {ops : Array Oper} {rest : List Oper} {o : Oper} {a : Act} {w : World} {Q : Exit → Act → World → Prop} (hw : Region.wanted o (yielded ops a.tmps) = true) (ty : TypeId) (x : Operand) (ho : o.op = .load ty x)
    (g off : Nat) (hx : a.eval x = .pointer (some ⟨g, off, none⟩)) (t : TypeId) (cs ds : Array Value) (fr : Nat × Nat) (d : TypeDesc) (hg : w.heap[g]? = some (.cells cs t fr)) (hp : ∀ j v, ds[j]? = some v → cs[off + j]? = some v)
    (hu : P.underlying ty = some d) (hd : d.isRow = true) (hi : (P.info? ty).map (·.size) = some ds.size)
    (h : wpList P ops Q rest (a.put o.dst (.agg ds)) w) : wpList P ops Q (o :: rest) a w := by
  unfold wpList
  rw [if_pos hw]
  refine .inl (wp_load_mid ty x ho g off hx ds.toList d ?_ hu hd (by simpa using hi) (by simpa using h))
  intro j v hv
  rw [cell_of_row w g (off + j) cs t fr hg]
  exact hp j v (by simpa using hv)
theorem wpList_store_part {P : Program} {ops : Array Oper} {rest : List Oper} {o : Oper} {a : Act} {w : World} {Q : Exit → Act → World → Prop} (hgd : o.guard = none) (ty : TypeId) (x y : Operand) (ho : o.op = .store ty x y)
    (g off : Nat) (t : TypeId) (cs ds new : Array Value) (hx : a.eval x = .pointer (some ⟨g, off, none⟩)) (hy : a.eval y = .agg ds) (hg : w.heap[g]? = some (.cells cs t (0, 0))) (hfit : off + ds.size ≤ cs.size)
    (hnew : cs.toList.take off ++ ds.toList ++ cs.toList.drop (off + ds.size) = new.toList) (hi : (P.info? ty).map (·.size) = some ds.size) (h1 : ds.all (·.oneCell') = true)
    (h : wpList P ops Q rest (a.put o.dst undef) (w.setRow g new)) : wpList P ops Q (o :: rest) a w :=
  wpList_plain hgd fun _ hK => by
    have hst := run_storeCells_at P g off t ds.toList 0 cs w hg (by simpa using hfit) (fun v hv => (Array.all_eq_true_iff_forall_mem.1 h1) v (by simpa using hv))
    have e : (cs.toList.take (off + 0) ++ ds.toList ++ cs.toList.drop (off + 0 + ds.toList.length)).toArray = new := by
      rw [Nat.add_zero, Array.length_toList, hnew]
    rw [e] at hst
    have hs : (storeVar ty ⟨g, off, none⟩ (.agg ds)).run P w = .ok () (w.setRow g new) := by
      cases hq : P.info? ty with
      | none => simp [hq] at hi
      | some i =>
        have hs : ds.size = i.size := by simp [hq] at hi; omega
        simp [storeVar, sizeOf, typeInfo, hq, Value.cells, hs, hst]
    unfold Oper.wp execOp
    simp only [ho, hx, hy, Instr.storeAt, Instr.sureAddr, Sem.run_bind, Sem.run_pure, Result.andThen_ok, hs]
    exact hK _ _ h
/-- A guarded operation that is not wanted. -/
theorem wpList_skip_eq {P : Program} {ops : Array Oper} {rest : List Oper} {o : Oper} {a : Act} {w : World} {Q : Exit → Act → World → Prop} (hw : Region.wanted o (yielded ops a.tmps) = false) : wpList P ops Q (o :: rest) a w = wpList P ops Q rest (a.put o.dst undef) w := by
  conv => lhs; unfold wpList
  rw [if_neg (by rw [hw]; simp)]
theorem wpList_build_g {P : Program} {ops : Array Oper} {rest : List Oper} {o : Oper} {a : Act} {w : World} {Q : Exit → Act → World → Prop} (hw : Region.wanted o (yielded ops a.tmps) = true) (ty : TypeId) (i j : Nat) (x y : Operand) (ho : o.op = .build ty #[(i, x), (j, y)])
    (p q v : Value) (hx : a.eval x = p) (hy : a.eval y = q) (hv : (Instr.build ty #[(i, p), (j, q)]).run P w = .ok v w) (h : wpList P ops Q rest (a.put o.dst v) w) : wpList P ops Q (o :: rest) a w := by
  unfold wpList
  rw [if_pos hw]
  refine .inl ?_
  unfold Oper.wp execOp
  simp only [ho, List.map_toArray, List.map_cons, List.map_nil, hx, hy, Sem.run_bind, hv, Sem.run_pure, Result.andThen_ok]
  exact h
theorem wpList_build0_g {P : Program} {ops : Array Oper} {rest : List Oper} {o : Oper} {a : Act} {w : World} {Q : Exit → Act → World → Prop} (hw : Region.wanted o (yielded ops a.tmps) = true) (ty : TypeId) (ho : o.op = .build ty #[])
    (v : Value) (hv : (Instr.build ty #[]).run P w = .ok v w) (h : wpList P ops Q rest (a.put o.dst v) w) : wpList P ops Q (o :: rest) a w := by
  unfold wpList
  rw [if_pos hw]
  refine .inl ?_
  unfold Oper.wp execOp
  simp only [ho, List.map_toArray, List.map_nil, Sem.run_bind, hv, Sem.run_pure, Result.andThen_ok]
  exact h
theorem wpList_store_int {P : Program} {ops : Array Oper} {rest : List Oper} {o : Oper} {a : Act} {w : World} {Q : Exit → Act → World → Prop} (hgd : o.guard = none) (ty : TypeId) (x y : Operand) (ho : o.op = .store ty x y)
    (g off : Nat) (t : TypeId) (cs new : Array Value) (kd : IntKind) (n : Int) (hx : a.eval x = .pointer (some ⟨g, off, none⟩)) (hy : a.eval y = .int kd n) (hg : w.heap[g]? = some (.cells cs t (0, 0))) (hfit : off + 1 ≤ cs.size)
    (hnew : cs.toList.take off ++ [Value.int kd n] ++ cs.toList.drop (off + 1) = new.toList) (hi : (P.info? ty).map (·.size) = some 1)
    (h : wpList P ops Q rest (a.put o.dst undef) (w.setRow g new)) : wpList P ops Q (o :: rest) a w :=
  wpList_plain hgd fun _ hK => by
    have hst := run_storeCells_at P g off t [.int kd n] 0 cs w hg (by simpa using hfit) (fun v hv => by rw [List.mem_singleton.1 hv]; rfl)
    have e : (cs.toList.take (off + 0) ++ [Value.int kd n] ++ cs.toList.drop (off + 0 + [Value.int kd n].length)).toArray = new := by
      rw [Nat.add_zero, List.length_singleton, hnew]
    rw [e] at hst
    have hs : (storeVar ty ⟨g, off, none⟩ (.int kd n)).run P w = .ok () (w.setRow g new) := by
      cases hq : P.info? ty with
      | none => simp [hq] at hi
      | some i =>
        have hs : i.size = 1 := by simpa [hq] using hi
        simp [storeVar, sizeOf, typeInfo, hq, Value.cells, hs, hst]
    unfold Oper.wp execOp
    simp only [ho, hx, hy, Instr.storeAt, Instr.sureAddr, Sem.run_bind, Sem.run_pure, Result.andThen_ok, hs]
    exact hK _ _ h
theorem infoInt1 : (Tryz.prog.info? 3).map (·.size) = some 1 := by kernel_rfl
abbrev TAm : Nat := 27
theorem infoTAm : (Tryz.prog.info? TAm).map (·.size) = some 19 := by kernel_rfl
theorem acells_one (r : Am) : r.cells.all (·.oneCell') = true := by simp [Am.cells, Value.oneCell']
theorem am_split (r : Am) : r.cells = #[.int .i64 r.k, .int .i64 r.n, .int .i64 r.c] ++ r.f.cells := by simp [Am.cells, Flt.cells]
theorem am_part (r : Am) : ∀ j v, r.f.cells[j]? = some v → r.cells[3 + j]? = some v := by
  intro j v h
  rw [am_split, Array.getElem?_append_right (by simp)]
  simpa using h
theorem am_put (r : Am) (f : Flt) : r.cells.toList.take 3 ++ f.cells.toList ++ r.cells.toList.drop (3 + f.cells.size) = (Am.cells ⟨r.k, r.n, r.c, f⟩).toList := by simp [Am.cells, Flt.cells]
def amEq (r q : Am) : Bool := r.k == q.k && (r.n == q.n && (r.c == q.c && fltEq r.f q.f))
theorem amEq_iff (r q : Am) : amEq r q = true ↔ r = q := by
  obtain ⟨a, b, c, f⟩ := r
  obtain ⟨a2, b2, c2, f2⟩ := q
  simp only [amEq, Bool.and_eq_true, beq_iff_eq, fltEq_iff, Am.mk.injEq]
theorem amEq_refl (r : Am) : amEq r r = true := (amEq_iff r r).2 rfl
theorem Tryz.fieldsF : Tryz.prog.underlying 25 = some (.struct (Tryz.prog.fieldsOf 25)) := by kernel_rfl
theorem Tryz.stoodF : Tryz.prog.stoodInHeld 25 = false := by kernel_rfl
set_option maxRecDepth 100000 in
/-- The model's == of two amounts. -/
theorem eq_am (r q : Am) (w : World) : (binOp .eql 27 (.agg r.cells) (.agg q.cells)).run Tryz.prog w = .ok (.bool (amEq r q)) w := by
  rw [run_eql_struct, run_equalIn_agg w 9999 27 _ _ (by kernel_rfl) (by kernel_rfl)]
  simp [amEq, fltEq, Am.cells, go_sem, Tryz.underlying27, Tryz.fieldsF, Tryz.stoodF, Tryz.underlying25, Tryz.underlying23, Tryz.underlying3, Tryz.underlying9]
  iterate 18 (refine ite_and_res (by simp) ?_)
  split
  · rename_i h; rw [h]; simp
  · rename_i h; rw [beq_eq_false_iff_ne.2 h]
theorem neq_am (r q : Am) (w : World) : (binOp .neq 27 (.agg r.cells) (.agg q.cells)).run Tryz.prog w = .ok (.bool (!amEq r q)) w := by
  have h := eq_am r q w
  rw [run_eql_struct] at h
  rw [run_neq_struct]
  generalize (Op.equalIn 10000 27 (.agg r.cells) (.agg q.cells)).run Tryz.prog w = x at *
  cases x <;> simp_all [Result.andThen]
/-- The variable names of package counter. -/
def cntRow : Array Value := (cntT.map fun x => Value.string (B x)).toArray
structure LaidM (w : World) : Prop where
  base : Laid w
  cnts : ∃ ty fr, w.heap[(0 : Nat)]? = some (.cells cntRow ty fr)
theorem LaidM.below {w w' : World} (h : LaidM w) (hb : Below w.heap.size w w') : LaidM w' := ⟨h.base.below hb, by
  obtain ⟨ty, fr, hv⟩ := h.cnts
  exact ⟨ty, fr, blk_below2 hb hv⟩⟩
theorem LaidM.alloc {w : World} (h : LaidM w) (o : Obj) : LaidM (w.alloc o) := h.below ((Below.refl _ _).alloc (Nat.le_refl _) _)
theorem LaidM.cnt {w : World} (h : LaidM w) {k : Nat} (hk : k < 3) : w.cell? ⟨(0 : Nat), k, none⟩ = some (.string (B (wd cntT k))) := by
  obtain ⟨ty, fr, hv⟩ := h.cnts
  rw [cell_of_row _ _ k _ _ _ hv]
  have hl : k < cntT.length := hk
  simp [cntRow, wd, List.getD, hl]
theorem cntName_any (c : Int) (w : World) (hl : LaidM w) : Calls Tryz.prog 17 #[.int .i64 c] w fun e w' => e = .returned (.string (B (cntText c))) ∧ w = w' := by
  have q0 := hl.cnt (k := 0) (by omega)
  have q1 := hl.cnt (k := 1) (by omega)
  have q2 := hl.cnt (k := 2) (by omega)
  by_cases h0 : c = 0
  · subst h0
    go_enter Tryz.func17, Tryz.ntmps17
    go_wp2
    go_ret
    exact ⟨rfl, rfl⟩
  by_cases h1 : c = 1
  · subst h1
    go_enter Tryz.func17, Tryz.ntmps17
    go_wp2
    go_ret
    exact ⟨rfl, rfl⟩
  by_cases h2 : c = 2
  · subst h2
    go_enter Tryz.func17, Tryz.ntmps17
    go_wp2
    go_ret
    exact ⟨rfl, rfl⟩
  · have HR : Hid (cntText c = []) := Lib.hid (by unfold cntText; rw [if_neg h0, if_neg h1, if_neg h2])
    have hc : c < 0 ∨ (0 ≤ c ∧ 3 ≤ c) := by omega
    clear h0 h1 h2
    generalize cntText c = R at *
    rcases hc with hc | ⟨hc, hd⟩
    all_goals
      go_enter Tryz.func17, Tryz.ntmps17
      go_wp2
      go_ret
      exact ⟨ret_str (by rw [HR.out]; rfl), rfl⟩
theorem cntName_is (c : Int) (R : ByteArray) (h : Hid (B (cntText c) = R)) (w : World) (hl : LaidM w) : Calls Tryz.prog 17 #[.int .i64 c] w fun e w' => e = .returned (.string R) ∧ w = w' :=
  (cntName_any c w hl).mono fun e w' h' => ⟨by rw [h'.1, h.out], h'.2⟩
def ixRet (o : Option Nat) : Int := match o with | some k => (k : Int) | none => -1
theorem cntIndex_any (s : ByteArray) (w : World) (hl : LaidM w) :
    Calls Tryz.prog 87 #[.slice (some ⟨(0 : Nat), 0, none⟩) 3 3, .string s] w fun e w' => e = .returned (.int .i64 (ixRet (cntIx (L s)))) ∧ w = w' := by
  obtain ⟨R, hR⟩ : ∃ R, cntIx (L s) = R := ⟨_, rfl⟩
  rw [hR]
  have HR : Hid (((List.range' 0 3).find? fun k => wd cntT k == L s) = R) := Lib.hid hR
  clear hR
  go_enter Tryz.func87, Tryz.ntmps87
  go_wp2
  go_loop [8] (fun kv => ∃ k : Nat, k ≤ 3 ∧ kv = .int .i64 k ∧ Hid (((List.range' k (3 - k)).find? fun k => wd cntT k == L s) = R)) (fun kv => 3 - (intOf kv).toNat)
  case atStart => exact ⟨0, by omega, rfl, HR⟩
  case round =>
    obtain ⟨k, hk, rfl, HD⟩ := hrel
    by_cases hlt : k < 3
    · have hk3 : (k : Int) < 3 := by omega
      have q := hl.cnt hlt
      have hst := HD.out
      rw [show 3 - k = (3 - (k + 1)) + 1 by omega, List.range'_succ, List.find?_cons] at hst
      generalize wd cntT k = x at *
      by_cases he : L s = x
      · have te : (s.toList == x) = true := toList_lit_yes he
        have HN : Hid (some k = R) := Lib.hid (by rw [← hst, show (x == L s) = true by simpa using he.symm])
        clear hst he
        go_wp2
        go_ret
        exact ⟨ret_int (by rw [← HN.out]; rfl), rfl⟩
      · have te : (s.toList == x) = false := toList_lit_no he
        have HN : Hid (((List.range' (k + 1) (3 - (k + 1))).find? fun k => wd cntT k == L s) = R) := Lib.hid (by rw [← hst, show (x == L s) = false by simpa using fun e => he e.symm])
        clear hst he
        go_wp2
        go_round
        case rel => exact ⟨k + 1, by omega, by go_num, HN⟩
        case measure => simp [intOf]; omega
    · obtain rfl : k = 3 := by omega
      have HN : Hid (none = R) := Lib.hid (by rw [← HD.out]; rfl)
      go_wp2
      go_ret
      exact ⟨ret_int (by rw [← HN.out]; rfl), rfl⟩
theorem cntKind_is (s : ByteArray) (n : Int) (b : Bool) (h : Hid ((((cntIx (L s)).getD 0 : Nat) : Int) = n ∧ (cntIx (L s)).isSome = b)) (w : World) (hl : LaidM w) :
    Calls Tryz.prog 58 #[.string s] w fun e w' => e = .returned (.tuple #[.int .i64 n, .bool b]) ∧ w = w' := by
  obtain ⟨o, ho⟩ : ∃ o, cntIx (L s) = o := ⟨_, rfl⟩
  have HC : ∀ wx, LaidM wx → Calls Tryz.prog 87 #[.slice (some ⟨(0 : Nat), 0, none⟩) 3 3, .string s] wx fun e w' => e = .returned (.int .i64 (ixRet o)) ∧ wx = w' := fun wx hlx => by rw [← ho]; exact cntIndex_any s wx hlx
  obtain ⟨h1, h2⟩ := h.out
  rw [ho] at h1 h2
  have HCH := Lib.hid HC
  cases o with
  | none =>
    have HN : Hid ((0 : Int) = n ∧ false = b) := Lib.hid ⟨h1, h2⟩
    clear h h1 h2 ho HC
    go_enter Tryz.func58, Tryz.ntmps58
    go_wp2_with (go_at_call 87; (with_reducible refine (HCH.out _ hl).mono ?_); rintro e w1 ⟨rfl, rfl⟩; dsimp only [ixRet])
    go_ret2
    exact ⟨ret_val (by rw [← HN.out.1, ← HN.out.2]; try rfl), rfl⟩
  | some k =>
    have HN : Hid ((k : Int) = n ∧ true = b) := Lib.hid ⟨h1, h2⟩
    have hk0 : (0 : Int) ≤ (k : Int) := by omega
    clear h h1 h2 ho HC
    go_enter Tryz.func58, Tryz.ntmps58
    go_wp2_with (go_at_call 87; (with_reducible refine (HCH.out _ hl).mono ?_); rintro e w1 ⟨rfl, rfl⟩; dsimp only [ixRet])
    go_ret2
    exact ⟨ret_val (by rw [← HN.out.1, ← HN.out.2]; try simp), rfl⟩
end Go.Proofs.YtcbegdjmopgbbaaGreatDoor
