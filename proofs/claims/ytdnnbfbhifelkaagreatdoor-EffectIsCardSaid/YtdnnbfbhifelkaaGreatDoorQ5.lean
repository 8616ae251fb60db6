/- Walks over St: one cell of a row set by setCell (regions that draw their order and store). Conditions: none. Plain words on memory: modifications' rows and ==. Conditions: none. Walks: package mod: -/
import Derived.Test.YtdnnbfbhifelkaaGreatDoorQ3
import Derived.RegionTactic
import Derived.ChangeAlike
import Derived.Test.YtdnnbfbhifelkaaGreatDoorQ2
import Derived.Test.YtdnnbfbhifelkaaGreatDoorQ1
import Derived.Test.YtdnnbfbhifelkaaGreatDoorQ4
set_option linter.all false
set_option maxRecDepth 100000
set_option maxHeartbeats 16000000
namespace Go.Proofs.YtdnnbfbhifelkaaGreatDoor
open Go.ChangeShapes Go.WideShapes Go.RowKit
theorem St.setC {L : World → Prop} {w0 w : World} {rows rows' : List Row} (h : St L w0 rows w) {g T : Nat} {cs new : Array Value} (m : RowSet g cs new T rows rows') (j : Nat) (u : Value) (hn : new = cs.setIfInBounds j u) : St L w0 rows' (w.setCell ⟨g, j, none⟩ u) := by
 obtain ⟨hg, ho⟩ := h.has _ m.mem
 refine ⟨h.base, h.keeps, h.below.setCell (p := ⟨g, j, none⟩) ho u, ?_, by rw [m.keys]; exact h.apart⟩
 intro x hx
 rcases m.cases h.apart x hx with rfl | ⟨h1, h2⟩
 ·refine ⟨?_, ho⟩
  simp [World.setCell, Array.getElem?_modify, hg, hn]
 ·exact ⟨(Below.heap_setCell w _ u x.1 h2).trans (h.has x h1).1, (h.has x h1).2⟩
theorem St.cellI {L : World → Prop} {w0 w : World} {rows : List Row} (h : St L w0 rows w) {g T : Nat} {cs : Array Value} (m : RowAt g cs T rows) (j : Nat) {v : Value} (hv : cs[j]? = some v) : w.cell? ⟨g, j, none⟩ = some v := (cell_of_row w g j cs T (0, 0) (h.row m)).trans hv
theorem St.freeI {L : World → Prop} {w0 w : World} {rows : List Row} (h : St L w0 rows w) {g T : Nat} {cs : Array Value} (m : RowAt g cs T rows) (j : Nat) : w.frozen? ⟨g, j, none⟩ = false := frozen_of_row w g j cs T (h.row m)
abbrev TMd : Nat := 54
theorem md_one (r : Md) : r.cells.all (·.oneCell') = true := by simp [Md.cells, Flt.cells, Value.oneCell']
theorem md_info : (Tryz.prog.info? 54).map (·.size) = some 20 := by kernel_rfl
theorem md_new : ∀ w : World, (zeroValue 54).run Tryz.prog w = .ok (.agg (Md.cells zeroM)) w := fun _ => by kernel_rfl
theorem md_build_ : ∀ w : World, (Instr.build 54 ([] : List (Nat × Value)).toArray).run Tryz.prog w = .ok (.agg (Md.cells ⟨(zeroM).kind, (zeroM).n, (zeroM).m, (zeroM).sub, (zeroM).f⟩)) w := fun _ => by kernel_rfl
def md_shape_ {ops rest a w Q dst ty pos af gd} (h : wpList Tryz.prog ops Q ((⟨dst, .build 54 #[], ty, pos, af, gd⟩ : Oper) :: rest) a w) := h
def md_bld_ {ops rest} {a : Act} {w Q dst ty pos af gd} hw h :=
 @wpList_bld w ops rest (⟨dst, .build 54 #[], ty, pos, af, gd⟩ : Oper) a Q 54 [] rfl hw [] (by simp only [List.map_cons, List.map_nil]) _ (md_build_) h
theorem md_build_0 (x0 : Int) : ∀ w : World, (Instr.build 54 ([(0, .int .i64 x0)] : List (Nat × Value)).toArray).run Tryz.prog w = .ok (.agg (Md.cells ⟨x0, (zeroM).n, (zeroM).m, (zeroM).sub, (zeroM).f⟩)) w := fun _ => by kernel_rfl
def md_shape_0 {ops rest a w Q dst ty pos af gd y0} (h : wpList Tryz.prog ops Q ((⟨dst, .build 54 #[(0, y0)], ty, pos, af, gd⟩ : Oper) :: rest) a w) := h
def md_bld_0 {x0 : Int} {ops rest} {a : Act} {w Q dst ty pos af gd y0} hw (h0 : a.eval y0 = .int .i64 x0) h :=
 @wpList_bld w ops rest (⟨dst, .build 54 #[(0, y0)], ty, pos, af, gd⟩ : Oper) a Q 54 [(0, y0)] rfl hw [(0, .int .i64 x0)] (by simp only [List.map_cons, List.map_nil, h0]) _ (md_build_0 x0) h
theorem md_build_0_4 (x0 : Int) (x4 : Flt) : ∀ w : World, (Instr.build 54 ([(0, .int .i64 x0), (4, .agg (Flt.cells x4))] : List (Nat × Value)).toArray).run Tryz.prog w = .ok (.agg (Md.cells ⟨x0, (zeroM).n, (zeroM).m, (zeroM).sub, x4⟩)) w := fun _ => by kernel_rfl
def md_shape_0_4 {ops rest a w Q dst ty pos af gd y0 y4} (h : wpList Tryz.prog ops Q ((⟨dst, .build 54 #[(0, y0), (4, y4)], ty, pos, af, gd⟩ : Oper) :: rest) a w) := h
def md_bld_0_4 {x0 : Int} {x4 : Flt} {ops rest} {a : Act} {w Q dst ty pos af gd y0 y4} hw (h0 : a.eval y0 = .int .i64 x0) (h4 : a.eval y4 = .agg (Flt.cells x4)) h :=
 @wpList_bld w ops rest (⟨dst, .build 54 #[(0, y0), (4, y4)], ty, pos, af, gd⟩ : Oper) a Q 54 [(0, y0), (4, y4)] rfl hw [(0, .int .i64 x0), (4, .agg (Flt.cells x4))] (by simp only [List.map_cons, List.map_nil, h0, h4]) _ (md_build_0_4 x0 x4) h
theorem md_build_0_1_2 (x0 : Int) (x1 : Int) (x2 : Int) : ∀ w : World, (Instr.build 54 ([(0, .int .i64 x0), (1, .int .i64 x1), (2, .int .i64 x2)] : List (Nat × Value)).toArray).run Tryz.prog w = .ok (.agg (Md.cells ⟨x0, x1, x2, (zeroM).sub, (zeroM).f⟩)) w := fun _ => by kernel_rfl
def md_shape_0_1_2 {ops rest a w Q dst ty pos af gd y0 y1 y2} (h : wpList Tryz.prog ops Q ((⟨dst, .build 54 #[(0, y0), (1, y1), (2, y2)], ty, pos, af, gd⟩ : Oper) :: rest) a w) := h
def md_bld_0_1_2 {x0 : Int} {x1 : Int} {x2 : Int} {ops rest} {a : Act} {w Q dst ty pos af gd y0 y1 y2} hw (h0 : a.eval y0 = .int .i64 x0) (h1 : a.eval y1 = .int .i64 x1) (h2 : a.eval y2 = .int .i64 x2) h :=
 @wpList_bld w ops rest (⟨dst, .build 54 #[(0, y0), (1, y1), (2, y2)], ty, pos, af, gd⟩ : Oper) a Q 54 [(0, y0), (1, y1), (2, y2)] rfl hw [(0, .int .i64 x0), (1, .int .i64 x1), (2, .int .i64 x2)] (by simp only [List.map_cons, List.map_nil, h0, h1, h2]) _ (md_build_0_1_2 x0 x1 x2) h
theorem md_at0 (r : Md) : (Md.cells r)[0]? = some (.int .i64 r.kind) := rfl
theorem md_set0 (r : Md) (x : Int) : (Md.cells r).toList.take 0 ++ (Value.cells (.int .i64 x)).toList ++ (Md.cells r).toList.drop (0 + (Value.cells (.int .i64 x)).size) = (Md.cells ⟨x, r.n, r.m, r.sub, r.f⟩).toList := rfl
theorem md_at1 (r : Md) : (Md.cells r)[1]? = some (.int .i64 r.n) := rfl
theorem md_set1 (r : Md) (x : Int) : (Md.cells r).toList.take 1 ++ (Value.cells (.int .i64 x)).toList ++ (Md.cells r).toList.drop (1 + (Value.cells (.int .i64 x)).size) = (Md.cells ⟨r.kind, x, r.m, r.sub, r.f⟩).toList := rfl
theorem md_at2 (r : Md) : (Md.cells r)[2]? = some (.int .i64 r.m) := rfl
theorem md_set2 (r : Md) (x : Int) : (Md.cells r).toList.take 2 ++ (Value.cells (.int .i64 x)).toList ++ (Md.cells r).toList.drop (2 + (Value.cells (.int .i64 x)).size) = (Md.cells ⟨r.kind, r.n, x, r.sub, r.f⟩).toList := rfl
theorem md_at3 (r : Md) : (Md.cells r)[3]? = some (.string r.sub) := rfl
theorem md_set3 (r : Md) (x : ByteArray) : (Md.cells r).toList.take 3 ++ (Value.cells (.string x)).toList ++ (Md.cells r).toList.drop (3 + (Value.cells (.string x)).size) = (Md.cells ⟨r.kind, r.n, r.m, x, r.f⟩).toList := rfl
theorem md_part4 (r : Md) : ∀ j v, (Flt.cells r.f)[j]? = some v → (Md.cells r)[4 + j]? = some v := by
 intro j v h
 have hj : j < 16 := by
  rcases Nat.lt_or_ge j 16 with h1 | h1
  ·exact h1
  ·rw [Array.getElem?_eq_none (by exact h1)] at h; cases h
 match j, hj, h with
 | 0, _, h => exact h
 | 1, _, h => exact h
 | 2, _, h => exact h
 | 3, _, h => exact h
 | 4, _, h => exact h
 | 5, _, h => exact h
 | 6, _, h => exact h
 | 7, _, h => exact h
 | 8, _, h => exact h
 | 9, _, h => exact h
 | 10, _, h => exact h
 | 11, _, h => exact h
 | 12, _, h => exact h
 | 13, _, h => exact h
 | 14, _, h => exact h
 | 15, _, h => exact h
theorem md_set4 (r : Md) (x : Flt) : (Md.cells r).toList.take 4 ++ (Value.cells (.agg (Flt.cells x))).toList ++ (Md.cells r).toList.drop (4 + (Value.cells (.agg (Flt.cells x))).size) = (Md.cells ⟨r.kind, r.n, r.m, r.sub, x⟩).toList := rfl
theorem md_put (r x : Md) : (Md.cells r).toList.take 0 ++ (Value.cells (.agg (Md.cells x))).toList ++ (Md.cells r).toList.drop (0 + (Value.cells (.agg (Md.cells x))).size) = (Md.cells x).toList := rfl
def md_st0 {L w0 w rows ops rest o a Q x y} ho hS hw {g} hx {v} hy {r T' rows'} hm h :=
 @wpList_st L w0 w rows ops rest o a Q 3 x y ho hS hw g 0 hx _ hy _ _ T' rows' hm (by exact Nat.le_of_ble_eq_true rfl) (md_set0 r v) infoInt1 (by simp [Value.cells, Value.oneCell']) h
def md_st1 {L w0 w rows ops rest o a Q x y} ho hS hw {g} hx {v} hy {r T' rows'} hm h :=
 @wpList_st L w0 w rows ops rest o a Q 3 x y ho hS hw g 1 hx _ hy _ _ T' rows' hm (by exact Nat.le_of_ble_eq_true rfl) (md_set1 r v) infoInt1 (by simp [Value.cells, Value.oneCell']) h
def md_st2 {L w0 w rows ops rest o a Q x y} ho hS hw {g} hx {v} hy {r T' rows'} hm h :=
 @wpList_st L w0 w rows ops rest o a Q 3 x y ho hS hw g 2 hx _ hy _ _ T' rows' hm (by exact Nat.le_of_ble_eq_true rfl) (md_set2 r v) infoInt1 (by simp [Value.cells, Value.oneCell']) h
def md_st3 {L w0 w rows ops rest o a Q x y} ho hS hw {g} hx {v} hy {r T' rows'} hm h :=
 @wpList_st L w0 w rows ops rest o a Q 9 x y ho hS hw g 3 hx _ hy _ _ T' rows' hm (by exact Nat.le_of_ble_eq_true rfl) (md_set3 r v) infoStr1 (by simp [Value.cells, Value.oneCell']) h
def md_st4 {L w0 w rows ops rest o a Q x y} ho hS hw {g} hx {v} hy {r T' rows'} hm h :=
 @wpList_st L w0 w rows ops rest o a Q 25 x y ho hS hw g 4 hx _ hy _ _ T' rows' hm (by exact Nat.le_of_ble_eq_true rfl) (md_set4 r v) flt_info (flt_one v) h
def md_stw {L w0 w rows ops rest o a Q x y} ho hS hw {g} hx {v} hy {r T' rows'} hm h :=
 @wpList_st L w0 w rows ops rest o a Q 54 x y ho hS hw g 0 hx _ hy _ _ T' rows' hm (by exact Nat.le_of_ble_eq_true rfl) (md_put r v) md_info (md_one v) h
def md_ld0 {L w0 w rows ops rest o a Q x} ho hS hw {g} hx {r T'} hm h :=
 @wpList_ld_cell L w0 w rows ops rest o a Q 3 x ho hS hw g 0 hx _ T' hm scal3 _ (md_at0 r) h
def md_ld1 {L w0 w rows ops rest o a Q x} ho hS hw {g} hx {r T'} hm h :=
 @wpList_ld_cell L w0 w rows ops rest o a Q 3 x ho hS hw g 1 hx _ T' hm scal3 _ (md_at1 r) h
def md_ld2 {L w0 w rows ops rest o a Q x} ho hS hw {g} hx {r T'} hm h :=
 @wpList_ld_cell L w0 w rows ops rest o a Q 3 x ho hS hw g 2 hx _ T' hm scal3 _ (md_at2 r) h
def md_ld3 {L w0 w rows ops rest o a Q x} ho hS hw {g} hx {r T'} hm h :=
 @wpList_ld_cell L w0 w rows ops rest o a Q 9 x ho hS hw g 3 hx _ T' hm scal9 _ (md_at3 r) h
def md_ld4 {L w0 w rows ops rest o a Q x} ho hS hw {g} hx {r T'} hm h :=
 @wpList_ld_part L w0 w rows ops rest o a Q 25 x ho hS hw g 4 hx _ _ T' hm (md_part4 r) _ Tryz.underlying25 rfl flt_info h
def md_ldw {L w0 w rows ops rest o a Q x} ho hS hw {g} hx {r T'} hm h :=
 @wpList_ld_row L w0 w rows ops rest o a Q 54 x ho hS hw g hx (Md.cells r) T' hm _ Tryz.underlying54 rfl md_info h
def md_rl0 {L w0 rows ops rest o a Q x} ho hw {g} hx {r : Md} {T'} hm hq h :=
 @runS_val L w0 rows ops Q o rest a (.int .i64 r.kind) hw hq (fun w hS => @run_ld_cell L w0 w rows o a hS 3 x ho g 0 hx _ T' hm scal3 _ (md_at0 r)) h
def md_rl1 {L w0 rows ops rest o a Q x} ho hw {g} hx {r : Md} {T'} hm hq h :=
 @runS_val L w0 rows ops Q o rest a (.int .i64 r.n) hw hq (fun w hS => @run_ld_cell L w0 w rows o a hS 3 x ho g 1 hx _ T' hm scal3 _ (md_at1 r)) h
def md_rl2 {L w0 rows ops rest o a Q x} ho hw {g} hx {r : Md} {T'} hm hq h :=
 @runS_val L w0 rows ops Q o rest a (.int .i64 r.m) hw hq (fun w hS => @run_ld_cell L w0 w rows o a hS 3 x ho g 2 hx _ T' hm scal3 _ (md_at2 r)) h
def md_rlw {L w0 rows ops rest o a Q x} ho hw {g} hx {r : Md} {T'} hm hq h :=
 @runS_val L w0 rows ops Q o rest a (.agg (Md.cells r)) hw hq (fun w hS => @run_ld_part L w0 w rows o a hS 54 x ho g 0 hx _ _ T' hm (fun j v hj => by simpa using hj) _ Tryz.underlying54 rfl md_info) h
theorem md_res2 {L : World → Prop} {w0 w : World} {rows : List Row} {a : Act} (hS : St L w0 rows w) {fn : Func} {p q : Tmp} (hf : fn.results = #[.cell p 54, .tmp q]) {g : Nat} (hp : a.tmps.getD p undef = .pointer (some ⟨g, 0, none⟩)) {r : Md} {T' : Nat} (hm : RowAt g (Md.cells r) T' rows) {v : Value} (hq : a.tmps.getD q undef = v) (hdef : a.defers = []) {R : Ending → World → Prop} (hR : Below w0.heap.size w0 w → R (.returned (.tuple #[.agg (Md.cells r), v])) w) : bodyPost Tryz.prog fn R .ret a w :=
 bodyPost_ret ((results_row_tmp hf a.tmps w g T' (Md.cells r) (0, 0) _ hp (hS.row hm) Tryz.underlying54 rfl md_info).trans (by rw [hq])) hdef (hR hS.below)
theorem md_res {L : World → Prop} {w0 w : World} {rows : List Row} {a : Act} (hS : St L w0 rows w) {fn : Func} {p : Tmp} (hf : fn.results = #[.cell p 54]) {g : Nat} (hp : a.tmps.getD p undef = .pointer (some ⟨g, 0, none⟩)) {r : Md} {T' : Nat} (hm : RowAt g (Md.cells r) T' rows) (hdef : a.defers = []) {R : Ending → World → Prop} (hR : Below w0.heap.size w0 w → R (.returned (.agg (Md.cells r))) w) : bodyPost Tryz.prog fn R .ret a w :=
 St.result hS hf hp hm Tryz.underlying54 rfl md_info hdef hR
theorem eq_md (r q : Md) (w : World) : (binOp .eql 54 (.agg r.cells) (.agg q.cells)).run Tryz.prog w = .ok (.bool (mdEq r q)) w := by
 rw [run_eql_struct, run_equalIn_agg w 9999 54 _ _ (by kernel_rfl) (by kernel_rfl)]
 simp [mdEq, fltEq, Md.cells, go_sem, Tryz.underlying54, Tryz.fieldsF, Tryz.stoodF, Tryz.underlying25, Tryz.underlying23, Tryz.underlying3, Tryz.underlying9]
 (try simp only [Bool.and_assoc])
 iterate 19 (refine ite_and_res (by simp) ?_)
 split
 ·rename_i h; rw [h]; simp
 ·rename_i h; rw [beq_eq_false_iff_ne.2 h]
theorem neq_md (r q : Md) (w : World) : (binOp .neq 54 (.agg r.cells) (.agg q.cells)).run Tryz.prog w = .ok (.bool (!mdEq r q)) w := by
 have h := eq_md r q w
 rw [run_eql_struct] at h
 rw [run_neq_struct]
 generalize (Op.equalIn 10000 54 (.agg r.cells) (.agg q.cells)).run Tryz.prog w = x at *
 cases x <;> simp_all [Result.andThen]
end Go.Proofs.YtdnnbfbhifelkaaGreatDoor
namespace Go.Proofs.YtdnnbfbhifelkaaGreatDoor
attribute [local irreducible] wpList Code.wp Calls
open Go.ChangeShapes Go.WideShapes Go.RowKit
theorem mdUsed_any (r : Md) (w : World) (hl : Laid w) : Calls Tryz.prog 114 #[.agg r.cells] w fun e w' => e = .returned (.agg (usedM r).cells) ∧ Below w.heap.size w w' := by
 obtain ⟨kind, n, m, sub, f⟩ := r
 have hS := St.start hl keepsL
 go_enter Tryz.func114, Tryz.ntmps114
 go_wp2_with (first | ((first | (with_reducible refine wpList_here ?_) | (with_reducible refine region_here ?_)); (have hq := int_eq (by assumption); subst hq)) | ((with_reducible refine region_here ?_); have c1 := hS.cellI (.tail (.tail .head)) 1 (v := .int .i64 n) rfl; have c2 := hS.cellI (.tail (.tail .head)) 2 (v := .int .i64 m) rfl; have d1 := hS.cellI .head 1 (v := .int .i64 0) rfl; have d2 := hS.cellI .head 2 (v := .int .i64 0) rfl; have f1 := hS.freeI .head 1; have f2 := hS.freeI .head 2; go_region; (have hS := ((hS.setC (new := Md.cells ⟨_, n, zeroM.m, zeroM.sub, zeroM.f⟩) .head 1 (.int .i64 n) rfl).setC (new := Md.cells ⟨_, n, m, zeroM.sub, zeroM.f⟩) .head 2 (.int .i64 m) rfl).drew); revert hS; generalize World.drew _ = wz; intro hS) | ((with_reducible refine at_box ?_); (first | (refine wpList_box_agg rfl hS rfl rfl ?_; intro g w hS)); (try simp only [put0, put1, put2, put3, put4])) | ((with_reducible refine at_alloc ?_); (first | (refine wpList_new 54 rfl hS rfl _ md_new ?_; intro g w hS)); (try simp only [put0, put1, put2, put3, put4])) | ((with_reducible refine md_shape_0 ?_); refine md_bld_0 rfl rfl ?_; (try simp only [put0, put1, put2, put3, put4])) | ((with_reducible refine at_load ?_); (first | (refine md_ldw rfl hS rfl rfl (by repeat constructor) ?_) | (refine md_ld0 rfl hS rfl rfl (by repeat constructor) ?_) | (refine md_ld1 rfl hS rfl rfl (by repeat constructor) ?_) | (refine md_ld3 rfl hS rfl rfl (by repeat constructor) ?_) | (refine md_ld4 rfl hS rfl rfl (by repeat constructor) ?_)); (try simp only [put0, put1, put2, put3, put4])) | ((with_reducible refine at_store ?_); (first | (refine md_stw rfl hS rfl rfl rfl (by repeat constructor) ?_; intro w hS) | (refine md_st1 rfl hS rfl rfl rfl (by repeat constructor) ?_; intro w hS) | (refine md_st3 rfl hS rfl rfl rfl (by repeat constructor) ?_; intro w hS) | (refine md_st4 rfl hS rfl rfl rfl (by repeat constructor) ?_; intro w hS)); (try simp only [put0, put1, put2, put3, put4])))
 all_goals (refine md_res hS rfl rfl (by repeat constructor) rfl (fun hb => ⟨ret_cells (f := Md.cells) ?_, hb⟩))
 all_goals (simp_all [usedM, usesN, zeroM])
def inB (n a b : Int) : Bool := decide (a ≤ n) && decide (n ≤ b)
theorem mdIn_any (n a b : Int) (w : World) : Calls Tryz.prog 113 #[.int .i64 n, .int .i64 a, .int .i64 b] w fun e w' => e = .returned (.bool (inB n a b)) ∧ w = w' := by
 go_enter Tryz.func113, Tryz.ntmps113
 go_wp2_with (first | fail)
 all_goals go_ret
 all_goals exact ⟨ret_bool (by rw [Bool.eq_iff_iff]; simp_all [inB] <;> (intros; omega)), rfl⟩
theorem mdIs_any (r : Md) (w : World) (hl : Laid w) : Calls Tryz.prog 66 #[.agg r.cells] w fun e w' => e = .returned (.bool (mdIs r)) ∧ Below w.heap.size w w' := by
 have heq := fun (q : Md) (wx : World) => neq_md r q wx
 have hS := St.start hl keepsL
 go_enter Tryz.func66, Tryz.ntmps66
 go_wp2_with (first | (go_at_call 113; (with_reducible refine (St.still hS fun hl => mdIn_any _ _ _ _).mono ?_); rintro e w ⟨rfl, hS⟩) | (go_at_call 103; (with_reducible refine (St.call hS fun hl => isSub_any _ _ hl).mono ?_); rintro e w ⟨rfl, hS⟩) | (go_at_call 57; (with_reducible refine (St.call hS fun hl => fltIs_c _ _ hl).mono ?_); rintro e w ⟨rfl, hS⟩) | ((with_reducible refine at_guard ?_); (first | (refine wpList_pass rfl ?_) | ((fail_if_success refine wpList_wanted rfl ?_); refine wpList_ask _ _ rfl rfl (fun hb => ?_) (fun hb => ?_) <;> (first | (obtain rfl := eq_of_beq hb) | (simp only [hb])))); (try simp only [put0, put1, put2, put3, put4])) | ((with_reducible refine at_box ?_); (first | (refine wpList_box_agg rfl hS rfl rfl ?_; intro g w hS)); (try simp only [put0, put1, put2, put3, put4])) | ((with_reducible refine at_load ?_); (first | (refine md_ld0 rfl hS rfl rfl (by repeat constructor) ?_) | (refine md_ld1 rfl hS rfl rfl (by repeat constructor) ?_) | (refine md_ld2 rfl hS rfl rfl (by repeat constructor) ?_) | (refine md_ld3 rfl hS rfl rfl (by repeat constructor) ?_) | (refine md_ld4 rfl hS rfl rfl (by repeat constructor) ?_)); (try simp only [put0, put1, put2, put3, put4])) | ((with_reducible refine region_here ?_); refine wp_region_St hS (by kernel_rfl) (by kernel_rfl) ?_) | ((with_reducible refine runS_end ?_); intro w hS) | ((with_reducible refine rat_guard ?_); (first | (refine runS_pass rfl (fun _ _ _ h => h) ?_) | ((fail_if_success refine runS_wanted rfl ?_); refine runS_ask _ _ rfl rfl (fun hb => ?_) (fun hb => ?_) <;> (first | (obtain rfl := eq_of_beq hb) | (simp only [hb])))); (try simp only [put0, put1, put2, put3, put4])) | ((with_reducible refine rat_load ?_); (first | (refine md_rlw rfl rfl rfl (by repeat constructor) (fun _ _ _ h => h) ?_) | (refine md_rl0 rfl rfl rfl (by repeat constructor) (fun _ _ _ h => h) ?_)); (try simp only [put0, put1, put2, put3, put4])) | ((with_reducible refine rat_call ?_); (first | (refine runS_call (v := ?_) (args := ?_) 113 rfl (fun _ _ _ h => h) ?_ ?_ ?_; rotate_left 2; (focus ((intro w; go_simp) <;> with_reducible rfl)); (focus (intro w hS; refine St.stillE hS (fun hl => mdIn_any _ _ _ _) ?_; with_reducible rfl))) | (refine runS_call (v := ?_) (args := ?_) 114 rfl (fun _ _ _ h => h) ?_ ?_ ?_; rotate_left 2; (focus ((intro w; go_simp) <;> with_reducible rfl)); (focus (intro w hS; refine St.callE hS (fun hl => mdUsed_any _ _ hl) ?_; with_reducible rfl)))); (try simp only [put0, put1, put2, put3, put4])) | ((with_reducible refine runS_here ?_); (refine runS_val (v := ?_) rfl (fun _ _ _ h => h) ?_ ?_; rotate_left; (focus ((intro w hS; go_simp) <;> with_reducible rfl))); (try simp only [put0, put1, put2, put3, put4])))
 all_goals go_ret
 all_goals (refine ⟨ret_bool ?_, hS.below⟩; clear heq hS hl; rw [Bool.eq_iff_iff]; simp_all [mdIs, mdNums, inB] <;> (intros; omega))
theorem mdIs_is (r : Md) (R : Bool) (h : Hid (R = mdIs r)) (w : World) (hl : Laid w) : Calls Tryz.prog 66 #[.agg r.cells] w fun e w' => e = .returned (.bool R) ∧ Below w.heap.size w w' :=
 (mdIs_any r w hl).mono fun e w' h' => ⟨by rw [h'.1, h.out], h'.2⟩
theorem types_len : ∀ k : Fin 64, (typesText k.val).length ≤ 1000 := by decide +kernel
theorem colors_len : ∀ k : Fin 32, (colorText k.val).length ≤ 1000 := by decide +kernel
theorem itoa99_len : ∀ k : Fin 199, (Lib.itoa ((k.val : Int) - 99)).length ≤ 1000 := by decide +kernel
theorem itoa99_le (n : Int) (h1 : -99 ≤ n) (h2 : n ≤ 99) : (Lib.itoa n).length ≤ 1000 := by
 have := itoa99_len ⟨(n + 99).toNat, by omega⟩
 simp only at this
 rwa [show (((n + 99).toNat : Nat) : Int) - 99 = n by omega] at this
theorem keyText_le {m : Nat} : (keyText m).length ≤ 1000000 := by
 unfold keyText
 split
 ·decide
 ·have h1 := join_le [43] 20 _ (maskWords_le (m := m) (show ∀ x ∈ kwT, x.length ≤ 20 by decide))
  have h2 := maskWords_len kwT m
  simp only [List.length_cons, List.length_nil] at h1; omega
theorem mdText_none (r : Md) (HV : Hid (false = mdIs r)) (w : World) (hl : Laid w) : Calls Tryz.prog 67 #[.agg r.cells] w fun e w' => e = .returned (.string (B [])) ∧ Below w.heap.size w w' := by
 obtain ⟨kind, n, m, sub, f⟩ := r
 have hS := St.start hl keepsL
 go_enter Tryz.func67, Tryz.ntmps67
 go_wp2_with (first | (go_at_call 66; (with_reducible refine (St.call hS fun hl => mdIs_is _ _ HV _ hl).mono ?_); rintro e w ⟨rfl, hS⟩) | ((with_reducible refine at_box ?_); (first | (refine wpList_box_agg rfl hS rfl rfl ?_; intro g w hS)); (try simp only [put0, put1, put2, put3, put4])) | ((with_reducible refine at_load ?_); (first | (refine md_ldw rfl hS rfl rfl (by repeat constructor) ?_)); (try simp only [put0, put1, put2, put3, put4])))
 go_ret
 exact ⟨rfl, hS.below⟩
theorem mdText_some (r : Md) (hr : MdForm r) (HV : Hid (true = mdIs r)) (w : World) (hl : Laid w) : Calls Tryz.prog 67 #[.agg r.cells] w fun e w' => e = .returned (.string (B (mdBody r))) ∧ Below w.heap.size w w' := by
 cases hr with
 | control | blank | switch =>
   have hS := St.start hl keepsL
   go_enter Tryz.func67, Tryz.ntmps67
   go_wp2_with (first | (go_at_call 66; (with_reducible refine (St.call hS fun hl => mdIs_is _ _ HV _ hl).mono ?_); rintro e w ⟨rfl, hS⟩) | ((with_reducible refine at_box ?_); (first | (refine wpList_box_agg rfl hS rfl rfl ?_; intro g w hS)); (try simp only [put0, put1, put2, put3, put4])) | ((with_reducible refine at_load ?_); (first | (refine md_ldw rfl hS rfl rfl (by repeat constructor) ?_) | (refine md_ld0 rfl hS rfl rfl (by repeat constructor) ?_)); (try simp only [put0, put1, put2, put3, put4])))
   all_goals go_ret
   all_goals exact ⟨ret_B rfl, hS.below⟩
 | types2 k h1 h2 | types3 k h1 h2 =>
   have h3 := types_len ⟨k, by omega⟩
   simp only at h3
   have hS := St.start hl keepsL
   go_enter Tryz.func67, Tryz.ntmps67
   go_wp2_with (first | (go_at_call 66; (with_reducible refine (St.call hS fun hl => mdIs_is _ _ HV _ hl).mono ?_); rintro e w ⟨rfl, hS⟩) | (go_at_call 115; (with_reducible refine (St.call hS fun hl => typesText_any _ _).mono ?_); rintro e w ⟨rfl, hS⟩) | ((with_reducible refine at_cat ?_); (first | (refine wpList_cat rfl rfl rfl rfl (by first | (simp only [List.length_append, List.length_cons, List.length_nil]; omega) | fail) ?_)); (try simp only [put0, put1, put2, put3, put4])) | ((with_reducible refine at_box ?_); (first | (refine wpList_box_agg rfl hS rfl rfl ?_; intro g w hS)); (try simp only [put0, put1, put2, put3, put4])) | ((with_reducible refine at_load ?_); (first | (refine md_ldw rfl hS rfl rfl (by repeat constructor) ?_) | (refine md_ld0 rfl hS rfl rfl (by repeat constructor) ?_) | (refine md_ld1 rfl hS rfl rfl (by repeat constructor) ?_)); (try simp only [put0, put1, put2, put3, put4])))
   all_goals go_ret
   all_goals exact ⟨ret_B rfl, hS.below⟩
 | sub4 s hs | sub5 s hs =>
   obtain ⟨p, rfl⟩ : ∃ p, s = B p := ⟨L s, (B_L s).symm⟩
   have h3 := isSub_len hs
   rw [L_B] at h3
   have hS := St.start hl keepsL
   go_enter Tryz.func67, Tryz.ntmps67
   go_wp2_with (first | (go_at_call 66; (with_reducible refine (St.call hS fun hl => mdIs_is _ _ HV _ hl).mono ?_); rintro e w ⟨rfl, hS⟩) | ((with_reducible refine at_cat ?_); (first | (refine wpList_cat rfl rfl rfl rfl (by first | (simp only [List.length_append, List.length_cons, List.length_nil]; omega) | fail) ?_)); (try simp only [put0, put1, put2, put3, put4])) | ((with_reducible refine at_box ?_); (first | (refine wpList_box_agg rfl hS rfl rfl ?_; intro g w hS)); (try simp only [put0, put1, put2, put3, put4])) | ((with_reducible refine at_load ?_); (first | (refine md_ldw rfl hS rfl rfl (by repeat constructor) ?_) | (refine md_ld0 rfl hS rfl rfl (by repeat constructor) ?_) | (refine md_ld3 rfl hS rfl rfl (by repeat constructor) ?_)); (try simp only [put0, put1, put2, put3, put4])))
   all_goals go_ret
   all_goals exact ⟨ret_B rfl, hS.below⟩
 | colors6 k h1 =>
   have h3 := colors_len ⟨k, by omega⟩
   simp only at h3
   have hS := St.start hl keepsL
   go_enter Tryz.func67, Tryz.ntmps67
   go_wp2_with (first | (go_at_call 66; (with_reducible refine (St.call hS fun hl => mdIs_is _ _ HV _ hl).mono ?_); rintro e w ⟨rfl, hS⟩) | (go_at_call 116; (with_reducible refine (St.call hS fun hl => colorText_any _ (by omega) _ hl).mono ?_); rintro e w ⟨rfl, hS⟩) | ((with_reducible refine at_cat ?_); (first | (refine wpList_cat rfl rfl rfl rfl (by first | (simp only [List.length_append, List.length_cons, List.length_nil]; omega) | fail) ?_)); (try simp only [put0, put1, put2, put3, put4])) | ((with_reducible refine at_box ?_); (first | (refine wpList_box_agg rfl hS rfl rfl ?_; intro g w hS)); (try simp only [put0, put1, put2, put3, put4])) | ((with_reducible refine at_load ?_); (first | (refine md_ldw rfl hS rfl rfl (by repeat constructor) ?_) | (refine md_ld0 rfl hS rfl rfl (by repeat constructor) ?_) | (refine md_ld1 rfl hS rfl rfl (by repeat constructor) ?_)); (try simp only [put0, put1, put2, put3, put4])))
   all_goals go_ret
   all_goals exact ⟨ret_B rfl, hS.below⟩
 | colors7 k h1 h2 =>
   have h3 := colors_len ⟨k, by omega⟩
   simp only at h3
   have hS := St.start hl keepsL
   go_enter Tryz.func67, Tryz.ntmps67
   go_wp2_with (first | (go_at_call 66; (with_reducible refine (St.call hS fun hl => mdIs_is _ _ HV _ hl).mono ?_); rintro e w ⟨rfl, hS⟩) | (go_at_call 116; (with_reducible refine (St.call hS fun hl => colorText_any _ (by omega) _ hl).mono ?_); rintro e w ⟨rfl, hS⟩) | ((with_reducible refine at_cat ?_); (first | (refine wpList_cat rfl rfl rfl rfl (by first | (simp only [List.length_append, List.length_cons, List.length_nil]; omega) | fail) ?_)); (try simp only [put0, put1, put2, put3, put4])) | ((with_reducible refine at_box ?_); (first | (refine wpList_box_agg rfl hS rfl rfl ?_; intro g w hS)); (try simp only [put0, put1, put2, put3, put4])) | ((with_reducible refine at_load ?_); (first | (refine md_ldw rfl hS rfl rfl (by repeat constructor) ?_) | (refine md_ld0 rfl hS rfl rfl (by repeat constructor) ?_) | (refine md_ld1 rfl hS rfl rfl (by repeat constructor) ?_)); (try simp only [put0, put1, put2, put3, put4])))
   all_goals go_ret
   all_goals exact ⟨ret_B rfl, hS.below⟩
 | keys8 k h1 h2 | keys9 k h1 h2 =>
   have h3 := keyText_le (m := k)
   have hS := St.start hl keepsL
   go_enter Tryz.func67, Tryz.ntmps67
   go_wp2_with (first | (go_at_call 66; (with_reducible refine (St.call hS fun hl => mdIs_is _ _ HV _ hl).mono ?_); rintro e w ⟨rfl, hS⟩) | (go_at_call 117; (with_reducible refine (St.call hS fun hl => keyText_any _ (by omega) _).mono ?_); rintro e w ⟨rfl, hS⟩) | ((with_reducible refine at_cat ?_); (first | (refine wpList_cat rfl rfl rfl rfl (by first | (simp only [List.length_append, List.length_cons, List.length_nil]; omega) | fail) ?_)); (try simp only [put0, put1, put2, put3, put4])) | ((with_reducible refine at_box ?_); (first | (refine wpList_box_agg rfl hS rfl rfl ?_; intro g w hS)); (try simp only [put0, put1, put2, put3, put4])) | ((with_reducible refine at_load ?_); (first | (refine md_ldw rfl hS rfl rfl (by repeat constructor) ?_) | (refine md_ld0 rfl hS rfl rfl (by repeat constructor) ?_) | (refine md_ld1 rfl hS rfl rfl (by repeat constructor) ?_)); (try simp only [put0, put1, put2, put3, put4])))
   all_goals go_ret
   all_goals exact ⟨ret_B rfl, hS.below⟩
 | count f hf =>
   have h3 := textOf_len (f := f)
   have hS := St.start hl keepsL
   go_enter Tryz.func67, Tryz.ntmps67
   go_wp2_with (first | (go_at_call 66; (with_reducible refine (St.call hS fun hl => mdIs_is _ _ HV _ hl).mono ?_); rintro e w ⟨rfl, hS⟩) | (go_at_call 44; (with_reducible refine (St.call hS fun hl => fltText_v _ _ hl).mono ?_); rintro e w ⟨rfl, hS⟩) | ((with_reducible refine at_cat ?_); (first | (refine wpList_cat rfl rfl rfl rfl (by first | (simp only [List.length_append, List.length_cons, List.length_nil]; omega) | fail) ?_)); (try simp only [put0, put1, put2, put3, put4])) | ((with_reducible refine at_box ?_); (first | (refine wpList_box_agg rfl hS rfl rfl ?_; intro g w hS)); (try simp only [put0, put1, put2, put3, put4])) | ((with_reducible refine at_load ?_); (first | (refine md_ldw rfl hS rfl rfl (by repeat constructor) ?_) | (refine md_ld0 rfl hS rfl rfl (by repeat constructor) ?_) | (refine md_ld4 rfl hS rfl rfl (by repeat constructor) ?_)); (try simp only [put0, put1, put2, put3, put4])))
   all_goals go_ret
   all_goals (refine ⟨ret_B ?_, hS.below⟩; simp [mdBody, ptV, countPV])
 | set12 n m h1 h2 h3 h4 =>
   have h5 := itoa99_le n (by omega) h2
   have h6 := itoa99_le m (by omega) h4
   have hS := St.start hl keepsL
   go_enter Tryz.func67, Tryz.ntmps67
   go_wp2_with (first | (go_at_call 66; (with_reducible refine (St.call hS fun hl => mdIs_is _ _ HV _ hl).mono ?_); rintro e w ⟨rfl, hS⟩) | ((with_reducible refine at_box ?_); (first | (refine wpList_box_agg rfl hS rfl rfl ?_; intro g w hS)); (try simp only [put0, put1, put2, put3, put4])) | ((with_reducible refine at_load ?_); (first | (refine md_ldw rfl hS rfl rfl (by repeat constructor) ?_) | (refine md_ld0 rfl hS rfl rfl (by repeat constructor) ?_)); (try simp only [put0, put1, put2, put3, put4])) | ((with_reducible refine region_here ?_); refine wp_region_St hS (by kernel_rfl) (by kernel_rfl) ?_) | ((with_reducible refine runS_end ?_); intro w hS) | ((with_reducible refine rat_cat ?_); (first | (refine runS_cat rfl rfl rfl rfl (by first | (simp only [List.length_append, List.length_cons, List.length_nil]; omega) | fail) (fun _ _ _ h => h) ?_)); (try simp only [put0, put1, put2, put3, put4])) | ((with_reducible refine rat_load ?_); (first | (refine md_rl1 rfl rfl rfl (by repeat constructor) (fun _ _ _ h => h) ?_) | (refine md_rl2 rfl rfl rfl (by repeat constructor) (fun _ _ _ h => h) ?_)); (try simp only [put0, put1, put2, put3, put4])) | ((with_reducible refine rat_call ?_); (first | (refine runS_call (v := ?_) (args := ?_) 64 rfl (fun _ _ _ h => h) ?_ ?_ ?_; rotate_left 2; (focus ((intro w; go_simp) <;> with_reducible rfl)); (focus (intro w hS; refine St.callE hS (fun hl => numText_any _ (by omega) (by omega) _ hl) ?_; with_reducible rfl)))); (try simp only [put0, put1, put2, put3, put4])) | ((with_reducible refine runS_here ?_); (refine runS_val (v := ?_) rfl (fun _ _ _ h => h) ?_ ?_; rotate_left; (focus ((intro w hS; go_simp) <;> with_reducible rfl))); (try simp only [put0, put1, put2, put3, put4])))
   all_goals go_ret
   all_goals (refine ⟨ret_B ?_, hS.below⟩; simp [mdBody, ptV])
 | add13 n m h1 h2 h3 h4 =>
   have h5 := itoa99_le n h1 h2
   have h6 := itoa99_le m h3 h4
   have hS := St.start hl keepsL
   go_enter Tryz.func67, Tryz.ntmps67
   go_wp2_with (first | (go_at_call 66; (with_reducible refine (St.call hS fun hl => mdIs_is _ _ HV _ hl).mono ?_); rintro e w ⟨rfl, hS⟩) | ((with_reducible refine at_box ?_); (first | (refine wpList_box_agg rfl hS rfl rfl ?_; intro g w hS)); (try simp only [put0, put1, put2, put3, put4])) | ((with_reducible refine at_load ?_); (first | (refine md_ldw rfl hS rfl rfl (by repeat constructor) ?_) | (refine md_ld0 rfl hS rfl rfl (by repeat constructor) ?_)); (try simp only [put0, put1, put2, put3, put4])) | ((with_reducible refine region_here ?_); refine wp_region_St hS (by kernel_rfl) (by kernel_rfl) ?_) | ((with_reducible refine runS_end ?_); intro w hS) | ((with_reducible refine rat_cat ?_); (first | (refine runS_cat rfl rfl rfl rfl (by first | (simp only [List.length_append, List.length_cons, List.length_nil]; omega) | fail) (fun _ _ _ h => h) ?_)); (try simp only [put0, put1, put2, put3, put4])) | ((with_reducible refine rat_load ?_); (first | (refine md_rl1 rfl rfl rfl (by repeat constructor) (fun _ _ _ h => h) ?_) | (refine md_rl2 rfl rfl rfl (by repeat constructor) (fun _ _ _ h => h) ?_)); (try simp only [put0, put1, put2, put3, put4])) | ((with_reducible refine rat_call ?_); (first | (refine runS_call (v := ?_) (args := ?_) 64 rfl (fun _ _ _ h => h) ?_ ?_ ?_; rotate_left 2; (focus ((intro w; go_simp) <;> with_reducible rfl)); (focus (intro w hS; refine St.callE hS (fun hl => numText_any _ (by omega) (by omega) _ hl) ?_; with_reducible rfl)))); (try simp only [put0, put1, put2, put3, put4])) | ((with_reducible refine runS_here ?_); (refine runS_val (v := ?_) rfl (fun _ _ _ h => h) ?_ ?_; rotate_left; (focus ((intro w hS; go_simp) <;> with_reducible rfl))); (try simp only [put0, put1, put2, put3, put4])))
   all_goals go_ret
   all_goals (refine ⟨ret_B ?_, hS.below⟩; simp [mdBody, ptPV])
theorem mdText_any (r : Md) (w : World) (hl : Laid w) : Calls Tryz.prog 67 #[.agg r.cells] w fun e w' => e = .returned (.string (B (mdText r))) ∧ Below w.heap.size w w' := by
 cases hv : mdIs r with
 | false => rw [mdText_no hv]; exact mdText_none r (Lib.hid hv.symm) w hl
 | true => rw [show mdText r = mdBody r from if_pos hv]; exact mdText_some r (md_form hv) (Lib.hid hv.symm) w hl
theorem mdText_is (r : Md) (T : Str) (h : Hid (mdText r = T)) (w : World) (hl : Laid w) : Calls Tryz.prog 67 #[.agg r.cells] w fun e w' => e = .returned (.string (B T)) ∧ Below w.heap.size w w' :=
 (mdText_any r w hl).mono fun e w' h' => ⟨by rw [h'.1, h.out], h'.2⟩
def optE (o : Option Nat) : Int := if o.isSome = true then 0 else 3
theorem optRet_eq (o : Option Nat) : optRet o = .tuple #[.int .i64 (optN o), .int .i64 (optE o)] := by cases o <;> rfl
theorem numRet_eq (o : Option Int) : numRet o = .tuple #[.int .i64 (o.getD 0), .bool o.isSome] := by cases o <;> rfl
def fltE (o : Option Flt) : Int := if o.isSome = true then 0 else 3
theorem fltRet_eq (o : Option Flt) : fltRet o = .tuple #[.agg (Flt.cells (o.getD zeroF)), .int .i64 (fltE o)] := by cases o <;> rfl
theorem ptB_any (x : Str) (hx : x.length < 100000000) (w : World) (hl : Laid w) : Calls Tryz.prog 219 #[.string (B x)] w fun e w' => e = .returned (.tuple #[.int .i64 (optN (ptOf x)), .int .i64 (optE (ptOf x))]) ∧ Below w.heap.size w w' :=
 (parseTypes_any (B x) w hl (by rw [B_size]; omega)).mono fun e w' ⟨he, hb⟩ => ⟨he.trans (by rw [L_B, optRet_eq]), hb⟩
theorem pcB_any (x : Str) (w : World) (hl : Laid w) : Calls Tryz.prog 220 #[.string (B x)] w fun e w' => e = .returned (.tuple #[.int .i64 (optN (pcOf x)), .int .i64 (optE (pcOf x))]) ∧ Below w.heap.size w w' :=
 (colorParse_any (B x) w hl).mono fun e w' ⟨he, hb⟩ => ⟨he.trans (by rw [L_B, optRet_eq]), hb⟩
theorem pkB_any (x : Str) (hx : x.length < 100000000) (w : World) : Calls Tryz.prog 186 #[.string (B x)] w fun e w' => e = .returned (.tuple #[.int .i64 (optN (pkOf x)), .int .i64 (optE (pkOf x))]) ∧ Below w.heap.size w w' :=
 (keyParse_any (B x) w (by rw [B_size]; omega)).mono fun e w' ⟨he, hb⟩ => ⟨he.trans (by rw [L_B, optRet_eq]), hb⟩
theorem numO_any (x : Str) (hx : x.length < 100000000) (w : World) (hl : Laid w) : Calls Tryz.prog 179 #[.string (B x)] w fun e w' => e = .returned (.tuple #[.int .i64 ((numOf x).getD 0), .bool (numOf x).isSome]) ∧ Below w.heap.size w w' :=
 (number_any (B x) w hl (by rw [B_size]; omega)).mono fun e w' ⟨he, hb⟩ => ⟨he.trans (by rw [L_B, numRet_eq]), hb⟩
theorem fltO_any (x : Str) (hx : x.length < 100000000) (w : World) (hl : Laid w) : Calls Tryz.prog 88 #[.string (B x)] w fun e w' => e = .returned (.tuple #[.agg (Flt.cells ((parseS x).getD zeroF)), .int .i64 (fltE (parseS x))]) ∧ Below w.heap.size w w' :=
 (fltParse_any (B x) w hl (by rw [B_size]; exact hx)).mono fun e w' ⟨he, hb⟩ => ⟨he.trans (by rw [L_B, fltRet_eq]), hb⟩
theorem cutO_any (s : Str) (c : UInt8) (p q : Str) (HC : Hid (cutAt c s = (p, q))) (w : World) (hl : Laid w) (hs : s.length < 100000000) :
 Calls Tryz.prog 218 #[.string (B s), .string ⟨#[c]⟩] w fun e w' => (∃ b, e = .returned (.tuple #[.string (B p), .string (B q), .bool b])) ∧ Below w.heap.size w w' :=
 (Tryz.strings_Cut_shaped (B s) ⟨#[c]⟩ w hl.shaped (by rw [B_size]; omega)).mono fun e w' ⟨he, n, hw⟩ => by
  obtain ⟨h1, h2⟩ := cut_one c s
  rw [HC.out] at h1 h2
  refine ⟨⟨(Lib.cut (B s).data.toList (⟨#[c]⟩ : ByteArray).data.toList).2.2, he.trans ?_⟩, hw ▸ below_drewN (Below.refl _ _) n⟩
  rw [show (⟨#[c]⟩ : ByteArray).data.toList = [c] from rfl, show (B s).data.toList = L (B s) from rfl, L_B, h1, h2]; rfl
theorem cutCnt_any (x : Str) (w : World) : Calls Tryz.prog 177 #[.string (B x), .string ⟨#[99, 111, 117, 110, 116, 40]⟩] w fun e w' => e = .returned (.tuple #[.string (B (Lib.trimPrefix x countPV)), .bool (Lib.hasPrefix x countPV)]) ∧ w = w' :=
 (cutPrefix_any (B x) ⟨#[99, 111, 117, 110, 116, 40]⟩ w countPV rfl).mono fun e w' h => ⟨by rw [h.1, L_B], h.2⟩
theorem trimO_any (x : Str) (hx : x.length < 1000000000) (w : World) : Calls Tryz.prog 180 #[.string (B x), .string ⟨#[41]⟩] w fun e w' => e = .returned (.string (B (Lib.trimSuffix x [41]))) ∧ w = w' :=
 (Tryz.strings_TrimSuffix (B x) ⟨#[41]⟩ w (by rw [B_size]; omega)).mono fun _ _ h' => ⟨h'.1.trans (by rw [show (B x).data.toList = L (B x) from rfl, L_B]; try rfl), h'.2.symm⟩
theorem hasPlus_any (x : Str) (hx : x.length < 1000000000) (w : World) : Calls Tryz.prog 222 #[.string (B x), .string ⟨#[43]⟩] w fun e w' => e = .returned (.bool (Lib.hasSuffix x [43])) ∧ w = w' :=
 (Tryz.strings_HasSuffix (B x) ⟨#[43]⟩ w (by rw [B_size]; omega)).mono fun _ _ h' => ⟨h'.1.trans (by rw [show (B x).data.toList = L (B x) from rfl, L_B]; try rfl), h'.2.symm⟩
theorem preLen (x p : Str) : (Lib.trimPrefix x p).length ≤ x.length := by unfold Lib.trimPrefix; split <;> simp
theorem sufLen (x p : Str) : (Lib.trimSuffix x p).length ≤ x.length := by unfold Lib.trimSuffix; split <;> simp
theorem mdPoints_any (s : Str) (hs : s.length < 100000000) (w : World) (hl : Laid w) : Calls Tryz.prog 221 #[.string (B s)] w fun e w' => e = .returned (.agg (Md.cells (pointsM s))) ∧ Below w.heap.size w w' := by
 have h1 := preLen s countPV
 have h2 := sufLen (Lib.trimPrefix s countPV) [41]
 obtain ⟨c1, c2⟩ := cut_len 47 s
 obtain ⟨p, q, hpq⟩ : ∃ p q, cutAt 47 s = (p, q) := ⟨_, _, rfl⟩
 rw [hpq] at c1 c2
 simp only at c1 c2
 have HC := Lib.hid hpq
 clear hpq
 have hS := St.start hl keepsL
 go_enter Tryz.func221, Tryz.ntmps221
 go_wp2_with (first | (go_at_call 177; (with_reducible refine (St.still hS fun hl => cutCnt_any _ _).mono ?_); rintro e w ⟨rfl, hS⟩) | (go_at_call 180; (with_reducible refine (St.still hS fun hl => trimO_any _ (by omega) _).mono ?_); rintro e w ⟨rfl, hS⟩) | (go_at_call 88; (with_reducible refine (St.call hS fun hl => fltO_any _ (by omega) _ hl).mono ?_); rintro e w ⟨rfl, hS⟩) | (go_at_call 179; (with_reducible refine (St.call hS fun hl => numO_any _ (by omega) _ hl).mono ?_); rintro e w ⟨rfl, hS⟩) | (go_at_call 218; (with_reducible refine (cutO_any s 47 p q HC _ hS.laid hs).mono ?_); rintro e w ⟨⟨b0, rfl⟩, hbw⟩; have hS := hS.mono hbw; clear hbw) | ((with_reducible refine at_alloc ?_); (first | (refine wpList_new 54 rfl hS rfl _ md_new ?_; intro g w hS) | (refine wpList_new 25 rfl hS rfl _ flt_new ?_; intro g w hS)); (try simp only [put0, put1, put2, put3, put4])) | ((with_reducible refine md_shape_0_4 ?_); refine md_bld_0_4 rfl rfl rfl ?_; (try simp only [put0, put1, put2, put3, put4])) | ((with_reducible refine md_shape_0_1_2 ?_); refine md_bld_0_1_2 rfl rfl rfl rfl ?_; (try simp only [put0, put1, put2, put3, put4])) | ((with_reducible refine at_load ?_); (first | (refine flt_ldw rfl hS rfl rfl (by repeat constructor) ?_)); (try simp only [put0, put1, put2, put3, put4])) | ((with_reducible refine at_store ?_); (first | (refine md_stw rfl hS rfl rfl rfl (by repeat constructor) ?_; intro w hS) | (refine flt_stw rfl hS rfl rfl rfl (by repeat constructor) ?_; intro w hS)); (try simp only [put0, put1, put2, put3, put4])))
 all_goals (refine md_res hS rfl rfl (by repeat constructor) rfl (fun hb => ⟨ret_cells (f := Md.cells) ?_, hb⟩))
 all_goals (have hc := HC.out; simp_all [pointsM, zeroM])
theorem pm_kind (q : Str) : wrap64 ((pointsM q).kind + 1) = (pointsM q).kind + 1 := by unfold pointsM; split <;> (simp only []; decide +kernel)
theorem mdGuess_any (s : Str) (hs : s.length < 100000000) (w : World) (hl : Laid w) : Calls Tryz.prog 184 #[.string (B s)] w fun e w' => e = .returned (.agg (Md.cells (guessM s))) ∧ Below w.heap.size w w' := by
 obtain ⟨c1, c2⟩ := cut_len 61 s
 obtain ⟨p, q, hpq⟩ : ∃ p q, cutAt 61 s = (p, q) := ⟨_, _, rfl⟩
 rw [hpq] at c1 c2
 simp only at c1 c2
 have HC := Lib.hid hpq
 clear hpq
 have hS := St.start hl keepsL
 go_enter Tryz.func184, Tryz.ntmps184
 go_wp2_with (first | ((first | (with_reducible refine wpList_here ?_) | (with_reducible refine region_here ?_)); (have hq := str_eq (by assumption); subst hq)) | (go_at_call 219; (with_reducible refine (St.call hS fun hl => ptB_any _ (by omega) _ hl).mono ?_); rintro e w ⟨rfl, hS⟩) | (go_at_call 220; (with_reducible refine (St.call hS fun hl => pcB_any _ _ hl).mono ?_); rintro e w ⟨rfl, hS⟩) | (go_at_call 186; (with_reducible refine (St.call hS fun hl => pkB_any _ (by omega) _).mono ?_); rintro e w ⟨rfl, hS⟩) | (go_at_call 221; (with_reducible refine (St.call hS fun hl => mdPoints_any _ (by omega) _ hl).mono ?_); rintro e w ⟨rfl, hS⟩) | (go_at_call 222; (with_reducible refine (St.still hS fun hl => hasPlus_any _ (by omega) _).mono ?_); rintro e w ⟨rfl, hS⟩) | (go_at_call 218; (with_reducible refine (cutO_any s 61 p q HC _ hS.laid hs).mono ?_); rintro e w ⟨⟨b0, rfl⟩, hbw⟩; have hS := hS.mono hbw; clear hbw) | ((with_reducible refine at_guard ?_); (first | (refine wpList_pass rfl ?_)); (try simp only [put0, put1, put2, put3, put4])) | ((with_reducible refine at_alloc ?_); (first | (refine wpList_new 54 rfl hS rfl _ md_new ?_; intro g w hS)); (try simp only [put0, put1, put2, put3, put4])) | ((with_reducible refine md_shape_0 ?_); refine md_bld_0 rfl rfl ?_; (try simp only [put0, put1, put2, put3, put4])) | ((with_reducible refine at_load ?_); (first | (refine md_ldw rfl hS rfl rfl (by repeat constructor) ?_) | (refine md_ld0 rfl hS rfl rfl (by repeat constructor) ?_)); (try simp only [put0, put1, put2, put3, put4])) | ((with_reducible refine at_store ?_); (first | (refine md_stw rfl hS rfl rfl rfl (by repeat constructor) ?_; intro w hS) | (refine md_st0 rfl hS rfl rfl rfl (by repeat constructor) ?_; intro w hS) | (refine md_st1 rfl hS rfl rfl rfl (by repeat constructor) ?_; intro w hS) | (refine md_st3 rfl hS rfl rfl rfl (by repeat constructor) ?_; intro w hS)); (try simp only [put0, put1, put2, put3, put4])))
 all_goals (refine md_res hS rfl rfl (by repeat constructor) rfl (fun hb => ⟨ret_cells (f := Md.cells) ?_, hb⟩))
 all_goals (have hc := HC.out; clear hS hl; simp_all [pm_kind, guessM, baseM, stepM, upM, zeroM, controlV, blankV, switchV, typesV, typesPV, subV, subPV, colorsV, colorsPV, keysPV, keysMV, ptV, ptPV] <;> (first | rfl | (decide +kernel) | exact pm_kind _))
def mdRet (o : Option Md) : Value := match o with | some r => .tuple #[.agg r.cells, .int .i64 0] | none => .tuple #[.agg zeroM.cells, .int .i64 3]
theorem mdGuess_is (s : Str) (G : Md) (h : Hid (guessM s = G)) (hs : s.length < 100000000) (w : World) (hl : Laid w) : Calls Tryz.prog 184 #[.string (B s)] w fun e w' => e = .returned (.agg G.cells) ∧ Below w.heap.size w w' :=
 (mdGuess_any s hs w hl).mono fun e w' h' => ⟨by rw [h'.1, h.out], h'.2⟩
theorem mdParse_at (s : Str) (hs : s.length < 100000000) (G : Md) (HG : Hid (guessM s = G)) (I : Bool) (HI : Hid (I = mdIs G)) (T : Str) (HT : Hid (mdText G = T)) (R : Option Md) (HR : Hid ((if I = true ∧ T = s then some G else none) = R)) (w : World) (hl : Laid w) :
 Calls Tryz.prog 141 #[.string (B s)] w fun e w' => e = .returned (mdRet R) ∧ Below w.heap.size w w' := by
 have hS := St.start hl keepsL
 cases I
 ·obtain rfl : R = none := by rw [← HR.out, if_neg (fun h => by cases h.1)]
  clear HR
  go_enter Tryz.func141, Tryz.ntmps141
  go_wp2_with (first | (go_at_call 184; (with_reducible refine (St.call hS fun hl => mdGuess_is _ _ HG hs _ hl).mono ?_); rintro e w ⟨rfl, hS⟩) | (go_at_call 66; (with_reducible refine (St.call hS fun hl => mdIs_is _ _ HI _ hl).mono ?_); rintro e w ⟨rfl, hS⟩) | ((with_reducible refine at_guard ?_); (first | (refine wpList_pass rfl ?_)); (try simp only [put0, put1, put2, put3, put4])) | ((with_reducible refine at_alloc ?_); (first | (refine wpList_new 54 rfl hS rfl _ md_new ?_; intro g w hS)); (try simp only [put0, put1, put2, put3, put4])) | ((with_reducible refine md_shape_ ?_); refine md_bld_ rfl ?_; (try simp only [put0, put1, put2, put3, put4])) | ((with_reducible refine at_load ?_); (first | (refine md_ldw rfl hS rfl rfl (by repeat constructor) ?_)); (try simp only [put0, put1, put2, put3, put4])) | ((with_reducible refine at_store ?_); (first | (refine md_stw rfl hS rfl rfl rfl (by repeat constructor) ?_; intro w hS)); (try simp only [put0, put1, put2, put3, put4])))
  all_goals (refine md_res2 hS rfl rfl (by repeat constructor) rfl rfl (fun hb => ⟨rfl, hb⟩))
 ·by_cases hx : T = s
  ·subst hx
   obtain rfl : R = some G := by rw [← HR.out, if_pos ⟨rfl, rfl⟩]
   clear HR
   have ht : (T == T) = true := by simp
   go_enter Tryz.func141, Tryz.ntmps141
   go_wp2_with (first | (go_at_call 184; (with_reducible refine (St.call hS fun hl => mdGuess_is _ _ HG hs _ hl).mono ?_); rintro e w ⟨rfl, hS⟩) | (go_at_call 66; (with_reducible refine (St.call hS fun hl => mdIs_is _ _ HI _ hl).mono ?_); rintro e w ⟨rfl, hS⟩) | (go_at_call 67; (with_reducible refine (St.call hS fun hl => mdText_is _ _ HT _ hl).mono ?_); rintro e w ⟨rfl, hS⟩) | ((with_reducible refine at_alloc ?_); (first | (refine wpList_new 54 rfl hS rfl _ md_new ?_; intro g w hS)); (try simp only [put0, put1, put2, put3, put4])) | ((with_reducible refine at_load ?_); (first | (refine md_ldw rfl hS rfl rfl (by repeat constructor) ?_)); (try simp only [put0, put1, put2, put3, put4])) | ((with_reducible refine at_store ?_); (first | (refine md_stw rfl hS rfl rfl rfl (by repeat constructor) ?_; intro w hS)); (try simp only [put0, put1, put2, put3, put4])))
   all_goals (refine md_res2 hS rfl rfl (by repeat constructor) rfl rfl (fun hb => ⟨rfl, hb⟩))
  ·obtain rfl : R = none := by rw [← HR.out, if_neg (fun h => hx h.2)]
   have hx' : (T == s) = false := by simpa using hx
   clear hx HR
   go_enter Tryz.func141, Tryz.ntmps141
   go_wp2_with (first | (go_at_call 184; (with_reducible refine (St.call hS fun hl => mdGuess_is _ _ HG hs _ hl).mono ?_); rintro e w ⟨rfl, hS⟩) | (go_at_call 66; (with_reducible refine (St.call hS fun hl => mdIs_is _ _ HI _ hl).mono ?_); rintro e w ⟨rfl, hS⟩) | (go_at_call 67; (with_reducible refine (St.call hS fun hl => mdText_is _ _ HT _ hl).mono ?_); rintro e w ⟨rfl, hS⟩) | ((with_reducible refine at_alloc ?_); (first | (refine wpList_new 54 rfl hS rfl _ md_new ?_; intro g w hS)); (try simp only [put0, put1, put2, put3, put4])) | ((with_reducible refine md_shape_ ?_); refine md_bld_ rfl ?_; (try simp only [put0, put1, put2, put3, put4])) | ((with_reducible refine at_load ?_); (first | (refine md_ldw rfl hS rfl rfl (by repeat constructor) ?_)); (try simp only [put0, put1, put2, put3, put4])) | ((with_reducible refine at_store ?_); (first | (refine md_stw rfl hS rfl rfl rfl (by repeat constructor) ?_; intro w hS)); (try simp only [put0, put1, put2, put3, put4])))
   all_goals (refine md_res2 hS rfl rfl (by repeat constructor) rfl rfl (fun hb => ⟨rfl, hb⟩))
theorem mdParse_any (s : Str) (hs : s.length < 100000000) (w : World) (hl : Laid w) : Calls Tryz.prog 141 #[.string (B s)] w fun e w' => e = .returned (mdRet (mdParse s)) ∧ Below w.heap.size w w' :=
 mdParse_at s hs _ (Lib.hid rfl) _ (Lib.hid rfl) _ (Lib.hid rfl) _ (Lib.hid rfl) w hl
def rusedM (r : Md) : Md := ⟨0, if usesN r.kind = true then 0 else r.n, if r.kind = 12 ∨ r.kind = 13 then 0 else r.m, if r.kind = 4 ∨ r.kind = 5 then ⟨#[]⟩ else r.sub, if r.kind = 11 then zeroF else r.f⟩
theorem rused_eq (r : Md) : mdEq (rusedM r) zeroM = mdEq r (usedM r) := by
 rw [Bool.eq_iff_iff, mdEq_iff, mdEq_iff]
 obtain ⟨k, n, m, s, f⟩ := r
 simp only [rusedM, usedM, zeroM, Md.mk.injEq, true_and]
 by_cases h1 : usesN k = true <;> by_cases h2 : k = 12 ∨ k = 13 <;> by_cases h3 : k = 4 ∨ k = 5 <;> by_cases h4 : k = 11 <;> simp [h1, h2, h3, h4]
def typesR (n : Int) : Bool := decide (1 ≤ n) && (decide (n ≤ 63) && (bits .and .i64 n 6 == 0))
theorem r15Types_any (n : Int) (w : World) : Calls Tryz.prog 160 #[.int .i64 n] w fun e w' => e = .returned (.bool (typesR n)) ∧ w = w' := by
 go_enter Tryz.func160, Tryz.ntmps160
 go_wp2_with (first | ((with_reducible refine at_guard ?_); (first | (refine wpList_pass rfl ?_)); (try simp only [put0, put1, put2, put3, put4])))
 all_goals go_ret
 all_goals exact ⟨ret_bool (by rw [Bool.eq_iff_iff]; simp_all [typesR] <;> (intros; omega)), rfl⟩
theorem r15Used_any (r : Md) (w : World) (hl : Laid w) : Calls Tryz.prog 159 #[.agg r.cells] w fun e w' => e = .returned (.agg (rusedM r).cells) ∧ Below w.heap.size w w' := by
 obtain ⟨kind, n, m, sub, f⟩ := r
 have hS := St.start hl keepsL
 go_enter Tryz.func159, Tryz.ntmps159
 go_wp2_with (first | ((first | (with_reducible refine wpList_here ?_) | (with_reducible refine region_here ?_)); (have hq := int_eq (by assumption); subst hq)) | ((with_reducible refine at_box ?_); (first | (refine wpList_box_agg rfl hS rfl rfl ?_; intro g w hS)); (try simp only [put0, put1, put2, put3, put4])) | ((with_reducible refine at_alloc ?_); (first | (refine wpList_new 54 rfl hS rfl _ md_new ?_; intro g w hS)); (try simp only [put0, put1, put2, put3, put4])) | ((with_reducible refine flt_shape_ ?_); refine flt_bld_ rfl ?_; (try simp only [put0, put1, put2, put3, put4])) | ((with_reducible refine at_load ?_); (first | (refine md_ldw rfl hS rfl rfl (by repeat constructor) ?_) | (refine md_ld0 rfl hS rfl rfl (by repeat constructor) ?_)); (try simp only [put0, put1, put2, put3, put4])) | ((with_reducible refine at_store ?_); (first | (refine md_stw rfl hS rfl rfl rfl (by repeat constructor) ?_; intro w hS) | (refine md_st0 rfl hS rfl rfl rfl (by repeat constructor) ?_; intro w hS) | (refine md_st1 rfl hS rfl rfl rfl (by repeat constructor) ?_; intro w hS) | (refine md_st2 rfl hS rfl rfl rfl (by repeat constructor) ?_; intro w hS) | (refine md_st3 rfl hS rfl rfl rfl (by repeat constructor) ?_; intro w hS) | (refine md_st4 rfl hS rfl rfl rfl (by repeat constructor) ?_; intro w hS)); (try simp only [put0, put1, put2, put3, put4])))
 all_goals (refine md_res hS rfl rfl (by repeat constructor) rfl (fun hb => ⟨ret_cells (f := Md.cells) ?_, hb⟩))
 all_goals (simp_all [rusedM, usesN, zeroM])
theorem rFltO_any (f : Flt) (w : World) : Calls Tryz.prog 59 #[.agg f.cells] w fun e w' => e = .returned (.bool (fltIs f)) ∧ Below w.heap.size w w' := rIs_v f _ (Lib.hid rfl) w
theorem r15Is_any (r : Md) (w : World) (hl : Laid w) : Calls Tryz.prog 108 #[.agg r.cells] w fun e w' => e = .returned (.bool (mdIs r)) ∧ Below w.heap.size w w' := by
 have heq := fun (wx : World) => (neq_md (rusedM r) zeroM wx).trans (by rw [rused_eq r])
 have hS := St.start hl keepsL
 go_enter Tryz.func108, Tryz.ntmps108
 go_wp2_with (first | (go_at_call 160; (with_reducible refine (St.still hS fun hl => r15Types_any _ _).mono ?_); rintro e w ⟨rfl, hS⟩) | (go_at_call 159; (with_reducible refine (St.call hS fun hl => r15Used_any _ _ hl).mono ?_); rintro e w ⟨rfl, hS⟩) | (go_at_call 106; (with_reducible refine (St.call hS fun hl => rIsSub_any _ _).mono ?_); rintro e w ⟨rfl, hS⟩) | (go_at_call 59; (with_reducible refine (St.call hS fun hl => rFltO_any _ _).mono ?_); rintro e w ⟨rfl, hS⟩) | ((with_reducible refine at_guard ?_); (first | (refine wpList_pass rfl ?_) | ((fail_if_success refine wpList_wanted rfl ?_); refine wpList_ask _ _ rfl rfl (fun hb => ?_) (fun hb => ?_) <;> (first | (obtain rfl := eq_of_beq hb) | (simp only [hb])))); (try simp only [put0, put1, put2, put3, put4])) | ((with_reducible refine at_box ?_); (first | (refine wpList_box_agg rfl hS rfl rfl ?_; intro g w hS)); (try simp only [put0, put1, put2, put3, put4])) | ((with_reducible refine md_shape_ ?_); refine md_bld_ rfl ?_; (try simp only [put0, put1, put2, put3, put4])) | ((with_reducible refine at_load ?_); (first | (refine md_ldw rfl hS rfl rfl (by repeat constructor) ?_) | (refine md_ld0 rfl hS rfl rfl (by repeat constructor) ?_) | (refine md_ld1 rfl hS rfl rfl (by repeat constructor) ?_) | (refine md_ld2 rfl hS rfl rfl (by repeat constructor) ?_) | (refine md_ld3 rfl hS rfl rfl (by repeat constructor) ?_) | (refine md_ld4 rfl hS rfl rfl (by repeat constructor) ?_)); (try simp only [put0, put1, put2, put3, put4])))
 all_goals go_ret
 all_goals (refine ⟨ret_bool ?_, hS.below⟩; clear heq hS hl; rw [Bool.eq_iff_iff]; simp_all [mdIs, mdNums, typesR] <;> (intros; omega))
theorem r15Is_is (r : Md) (R : Bool) (h : Hid (R = mdIs r)) (w : World) (hl : Laid w) : Calls Tryz.prog 108 #[.agg r.cells] w fun e w' => e = .returned (.bool R) ∧ Below w.heap.size w w' :=
 (r15Is_any r w hl).mono fun e w' h' => ⟨by rw [h'.1, h.out], h'.2⟩
theorem jBits_join (T : List Str) (m : Nat) (sep : Str) : ∀ k, (∀ i, i < k → T.getD i [] ≠ []) → jBits T m sep k = Lib.join ((bitsUpto m k).map fun i => T.getD i []) sep ∧ (jBits T m sep k = [] ↔ bitsUpto m k = [])
 | 0, _ => by simp [jBits, bitsUpto, Lib.join_nil]
 | k + 1, h => by
   obtain ⟨h1, h2⟩ := jBits_join T m sep k (fun i hi => h i (by omega))
   rw [jBits]
   cases hb : m.testBit k with
   | false => rw [bitsUpto_no hb]; exact ⟨h1, h2⟩
   | true =>
     rw [bitsUpto_yes hb, List.map_append, List.map_cons, List.map_nil, join_snoc, if_pos rfl]
     by_cases h0 : bitsUpto m k = []
     ·rw [if_pos (h2.2 h0)]
      have hk := h k (by omega)
      simp [h0]; simpa using hk
     ·have h0' := fun e => h0 (h2.1 e)
      rw [if_neg h0', if_neg (by simpa using h0), ← h1]
      refine ⟨rfl, fun e => ?_, fun e => ?_⟩
      ·exact absurd (List.append_eq_nil_iff.1 (List.append_eq_nil_iff.1 e).1).1 h0'
      ·simp at e
theorem jKeys (m : Nat) (hm : m < 2 ^ 17) : keyText m = if jBits kwT m [43] 17 = [] then noneW else jBits kwT m [43] 17 := by
 obtain ⟨h1, h2⟩ := jBits_join kwT m [43] 17 (fun i hi => wd_ne0 ⟨i, hi⟩)
 have e : maskWords kwT m = (bitsUpto m 17).map fun i => kwT.getD i [] := by unfold maskWords; rw [bitsUpto_ge hm (show 17 ≤ 31 by omega)]
 unfold keyText
 rw [e, ← h1]
 by_cases h0 : m = 0
 ·subst h0; rw [if_pos rfl, if_pos (h2.2 rfl)]
 ·rw [if_neg h0, if_neg]
  intro hj
  apply mask_ne (T := kwT) h0 (Nat.lt_of_lt_of_le hm (Nat.pow_le_pow_right (by omega) (by omega)))
  rw [e, h2.1 hj]; rfl
theorem colN0 (w : World) : Calls Tryz.prog 133 #[.int .i64 0] w fun e w' => e = .returned (.string (B [97, 109, 98, 101, 114])) ∧ w = w' := fColor_any 0 (by decide) w
theorem colN1 (w : World) : Calls Tryz.prog 133 #[.int .i64 1] w fun e w' => e = .returned (.string (B [99, 111, 98, 97, 108, 116])) ∧ w = w' := fColor_any 1 (by decide) w
theorem colN2 (w : World) : Calls Tryz.prog 133 #[.int .i64 2] w fun e w' => e = .returned (.string (B [106, 101, 116])) ∧ w = w' := fColor_any 2 (by decide) w
theorem colN3 (w : World) : Calls Tryz.prog 133 #[.int .i64 3] w fun e w' => e = .returned (.string (B [114, 117, 98, 121])) ∧ w = w' := fColor_any 3 (by decide) w
theorem colN4 (w : World) : Calls Tryz.prog 133 #[.int .i64 4] w fun e w' => e = .returned (.string (B [101, 109, 101, 114, 97, 108, 100])) ∧ w = w' := fColor_any 4 (by decide) w
def in09 (n : Int) : Bool := decide (0 ≤ n) && decide (n ≤ 31)
theorem r09Is_any (n : Int) (w : World) : Calls Tryz.prog 203 #[.int .i64 n] w fun e w' => e = .returned (.bool (in09 n)) ∧ w = w' := by
 go_enter Tryz.func203, Tryz.ntmps203
 go_wp2_with (first | ((with_reducible refine at_guard ?_); (first | (refine wpList_pass rfl ?_)); (try simp only [put0, put1, put2, put3, put4])))
 all_goals go_ret
 all_goals exact ⟨ret_bool (by rw [Bool.eq_iff_iff]; simp_all [in09] <;> (intros; omega)), rfl⟩
theorem r09Text_any (m : Nat) (hm : m < 32) (w0 : World) (hl : Laid w0) : Calls Tryz.prog 162 #[.int .i64 m] w0 fun e w' => e = .returned (.string (B (colorText m))) ∧ Below w0.heap.size w0 w' := by
 have hS := St.start hl keepsL
 have hc : m = 0 ∨ m = 1 ∨ m = 2 ∨ m = 3 ∨ m = 4 ∨ m = 5 ∨ m = 6 ∨ m = 7 ∨ m = 8 ∨ m = 9 ∨ m = 10 ∨ m = 11 ∨ m = 12 ∨ m = 13 ∨ m = 14 ∨ m = 15 ∨ m = 16 ∨ m = 17 ∨ m = 18 ∨ m = 19 ∨ m = 20 ∨ m = 21 ∨ m = 22 ∨ m = 23 ∨ m = 24 ∨ m = 25 ∨ m = 26 ∨ m = 27 ∨ m = 28 ∨ m = 29 ∨ m = 30 ∨ m = 31 := by omega
 rcases hc with rfl | rfl | rfl | rfl | rfl | rfl | rfl | rfl | rfl | rfl | rfl | rfl | rfl | rfl | rfl | rfl | rfl | rfl | rfl | rfl | rfl | rfl | rfl | rfl | rfl | rfl | rfl | rfl | rfl | rfl | rfl | rfl
 all_goals
  go_enter Tryz.func162, Tryz.ntmps162
  go_wp2_with (first | (go_at_call 203; (with_reducible refine (St.still hS fun hl => r09Is_any _ _).mono ?_); rintro e w ⟨rfl, hS⟩) | (go_at_call 133; (with_reducible refine (St.still hS fun hl => colN0 _).mono ?_); rintro e w ⟨rfl, hS⟩) | (go_at_call 133; (with_reducible refine (St.still hS fun hl => colN1 _).mono ?_); rintro e w ⟨rfl, hS⟩) | (go_at_call 133; (with_reducible refine (St.still hS fun hl => colN2 _).mono ?_); rintro e w ⟨rfl, hS⟩) | (go_at_call 133; (with_reducible refine (St.still hS fun hl => colN3 _).mono ?_); rintro e w ⟨rfl, hS⟩) | (go_at_call 133; (with_reducible refine (St.still hS fun hl => colN4 _).mono ?_); rintro e w ⟨rfl, hS⟩) | ((with_reducible refine loop_here ?_); refine wp_loop_rounds 6 ?_) | (with_reducible refine rounds_step ?_) | ((with_reducible refine at_cat ?_); (first | (refine wpList_cat rfl rfl rfl rfl (by first | (simp only [List.length_append, List.length_cons, List.length_nil]; omega) | fail) ?_)); (try simp only [put0, put1, put2, put3, put4])))
  all_goals go_ret
  all_goals exact ⟨ret_B (by decide +kernel), hS.below⟩
theorem r11Is_nat (m : Nat) (hm : m ≤ 131071) (w : World) : Calls Tryz.prog 204 #[.int .i64 m] w fun e w' => e = .returned (.bool true) ∧ w = w' := by
 go_enter Tryz.func204, Tryz.ntmps204
 go_wp2
 all_goals go_ret
 all_goals first | exact ⟨rfl, rfl⟩ | exact ⟨ret_bool (by simp; omega), rfl⟩
theorem kw_le : ∀ i : Fin 17, (wd kwT i.val).length ≤ 20 := by decide +kernel
theorem rKey_is (i : Nat) (hi : i < 17) (W : Str) (h : Hid (wd kwT i = W)) (w : World) : Calls Tryz.prog 134 #[.int .i64 i] w fun e w' => e = .returned (.string (B W)) ∧ Below w.heap.size w w' :=
 (fKey_any i hi w).mono fun e w' h' => ⟨by rw [h'.1, h.out], h'.2⟩
theorem jk_step (m k : Nat) : jBits kwT m [43] (k + 1) = if m.testBit k = true then (if jBits kwT m [43] k = [] then wd kwT k else jBits kwT m [43] k ++ ([43] ++ wd kwT k)) else jBits kwT m [43] k := by
 rw [jBits, List.append_assoc]; rfl
theorem r11Text_any (m : Nat) (hm : m < 2 ^ 17) (w0 : World) (hl : Laid w0) : Calls Tryz.prog 163 #[.int .i64 m] w0 fun e w' => e = .returned (.string (B (keyText m))) ∧ Below w0.heap.size w0 w' := by
 have HJ := Lib.hid (jKeys m hm)
 have hm' : m ≤ 131071 := by omega
 have hS := St.start hl keepsL
 go_enter Tryz.func163, Tryz.ntmps163
 go_wp2_with (first | (go_at_call 204; (with_reducible refine (St.still hS fun hl => r11Is_nat m hm' _).mono ?_); rintro e w ⟨rfl, hS⟩))
 go_loopw [0, 3, 4] (fun mv sv iv wr => ∃ (k x : Nat) (p : Str), k ≤ 17 ∧ x ≤ 131071 ∧ p.length ≤ 200 * k ∧ mv = .int .i64 x ∧ sv = .string (B p) ∧ iv = .int .i64 k ∧ Hid (x = m / 2 ^ k) ∧ Hid (jBits kwT m [43] k = p) ∧ Hid (St Laid w0 [] wr)) (fun _ _ iv _ => 17 - (intOf iv).toNat)
 case atStart => exact ⟨0, m, [], by omega, hm', by simp, rfl, rfl, rfl, by simp [Hid], rfl, Lib.hid hS⟩
 case round =>
  clear hS
  obtain ⟨k, x, p, hk, hx, hp, rfl, rfl, rfl, HX, HP, HS⟩ := hrel
  have hS := HS.out
  clear HS
  by_cases hlt : k < 17
  ·have HX2 : Hid (x / 2 = m / 2 ^ (k + 1)) := Lib.hid (by rw [HX.out, Nat.pow_succ, Nat.div_div_eq_div_mul])
   have hst := jk_step m k
   rw [Nat.testBit_eq_decide_div_mod_eq, ← HX.out, HP.out] at hst
   have hw := kw_le ⟨k, hlt⟩
   simp only at hw
   generalize hW : wd kwT k = W at *
   have HW := Lib.hid hW
   clear hW
   by_cases hb : x % 2 = 1
   ·rw [decide_eq_true hb, if_pos rfl] at hst
    by_cases hp0 : p = []
    ·subst hp0
     rw [if_pos rfl] at hst
     have HN := Lib.hid hst
     clear hst
     go_wp2_with (first | (go_at_call 134; (with_reducible refine (St.call hS fun hl => rKey_is k hlt _ HW _).mono ?_); rintro e w ⟨rfl, hS⟩) | ((with_reducible refine at_cat ?_); (first | (refine wpList_cat rfl rfl rfl rfl (by first | (simp only [List.length_append, List.length_cons, List.length_nil]; omega) | fail) ?_)); (try simp only [put0, put1, put2, put3, put4])))
     go_roundw
     case rel => exact ⟨k + 1, x / 2, W, by omega, by omega, by omega, by go_num, rfl, by go_num, HX2, HN, Lib.hid hS⟩
     case measure => simp [intOf]; omega
    ·rw [if_neg hp0] at hst
     have hp1 : (p == []) = false := by simpa using hp0
     have HN := Lib.hid hst
     clear hst hp0
     go_wp2_with (first | (go_at_call 134; (with_reducible refine (St.call hS fun hl => rKey_is k hlt _ HW _).mono ?_); rintro e w ⟨rfl, hS⟩) | ((with_reducible refine at_cat ?_); (first | (refine wpList_cat rfl rfl rfl rfl (by first | (simp only [List.length_append, List.length_cons, List.length_nil]; omega) | fail) ?_)); (try simp only [put0, put1, put2, put3, put4])))
     go_roundw
     case rel => exact ⟨k + 1, x / 2, p ++ ([43] ++ W), by omega, by omega, by simp; omega, by go_num, by simp [B_append], by go_num, HX2, HN, Lib.hid hS⟩
     case measure => simp [intOf]; omega
   ·have hb' : x % 2 = 0 := by omega
    rw [decide_eq_false hb, if_neg (by decide)] at hst
    have HN := Lib.hid hst
    clear hst
    go_wp2_with (first | fail)
    go_roundw
    case rel => exact ⟨k + 1, x / 2, p, by omega, by omega, by omega, by go_num, rfl, by go_num, HX2, HN, Lib.hid hS⟩
    case measure => simp [intOf]; omega
  ·obtain rfl : k = 17 := by omega
   rw [HP.out] at HJ
   by_cases hp0 : p = []
   ·subst hp0
    go_wp2_with (first | fail)
    go_ret
    exact ⟨ret_B (by rw [HJ.out]; rfl), hS.below⟩
   ·have hp1 : (p == []) = false := by simpa using hp0
    have HE : Hid (keyText m = p) := Lib.hid (by rw [HJ.out, if_neg hp0])
    clear hp0
    go_wp2_with (first | fail)
    go_ret
    exact ⟨ret_B HE.out.symm, hS.below⟩
theorem r15Text_none (r : Md) (HV : Hid (false = mdIs r)) (w : World) (hl : Laid w) : Calls Tryz.prog 109 #[.agg r.cells] w fun e w' => e = .returned (.string (B [])) ∧ Below w.heap.size w w' := by
 obtain ⟨kind, n, m, sub, f⟩ := r
 have hS := St.start hl keepsL
 go_enter Tryz.func109, Tryz.ntmps109
 go_wp2_with (first | (go_at_call 108; (with_reducible refine (St.call hS fun hl => r15Is_is _ _ HV _ hl).mono ?_); rintro e w ⟨rfl, hS⟩) | ((with_reducible refine at_box ?_); (first | (refine wpList_box_agg rfl hS rfl rfl ?_; intro g w hS)); (try simp only [put0, put1, put2, put3, put4])) | ((with_reducible refine at_load ?_); (first | (refine md_ldw rfl hS rfl rfl (by repeat constructor) ?_)); (try simp only [put0, put1, put2, put3, put4])))
 go_ret
 exact ⟨rfl, hS.below⟩
theorem r15Text_some (r : Md) (hr : MdForm r) (HV : Hid (true = mdIs r)) (w : World) (hl : Laid w) : Calls Tryz.prog 109 #[.agg r.cells] w fun e w' => e = .returned (.string (B (mdBody r))) ∧ Below w.heap.size w w' := by
 cases hr with
 | control | blank | switch =>
   have hS := St.start hl keepsL
   go_enter Tryz.func109, Tryz.ntmps109
   go_wp2_with (first | (go_at_call 108; (with_reducible refine (St.call hS fun hl => r15Is_is _ _ HV _ hl).mono ?_); rintro e w ⟨rfl, hS⟩) | ((with_reducible refine at_box ?_); (first | (refine wpList_box_agg rfl hS rfl rfl ?_; intro g w hS)); (try simp only [put0, put1, put2, put3, put4])) | ((with_reducible refine at_load ?_); (first | (refine md_ldw rfl hS rfl rfl (by repeat constructor) ?_) | (refine md_ld0 rfl hS rfl rfl (by repeat constructor) ?_)); (try simp only [put0, put1, put2, put3, put4])))
   all_goals go_ret
   all_goals exact ⟨ret_B rfl, hS.below⟩
 | types2 k h1 h2 | types3 k h1 h2 =>
   have h3 := types_len ⟨k, by omega⟩
   simp only at h3
   have hS := St.start hl keepsL
   go_enter Tryz.func109, Tryz.ntmps109
   go_wp2_with (first | (go_at_call 108; (with_reducible refine (St.call hS fun hl => r15Is_is _ _ HV _ hl).mono ?_); rintro e w ⟨rfl, hS⟩) | (go_at_call 161; (with_reducible refine (St.call hS fun hl => rTypesText_any _ h1 h2 _).mono ?_); rintro e w ⟨rfl, hS⟩) | ((with_reducible refine at_cat ?_); (first | (refine wpList_cat rfl rfl rfl rfl (by first | (simp only [List.length_append, List.length_cons, List.length_nil]; omega) | fail) ?_)); (try simp only [put0, put1, put2, put3, put4])) | ((with_reducible refine at_box ?_); (first | (refine wpList_box_agg rfl hS rfl rfl ?_; intro g w hS)); (try simp only [put0, put1, put2, put3, put4])) | ((with_reducible refine at_load ?_); (first | (refine md_ldw rfl hS rfl rfl (by repeat constructor) ?_) | (refine md_ld0 rfl hS rfl rfl (by repeat constructor) ?_) | (refine md_ld1 rfl hS rfl rfl (by repeat constructor) ?_)); (try simp only [put0, put1, put2, put3, put4])))
   all_goals go_ret
   all_goals exact ⟨ret_B rfl, hS.below⟩
 | sub4 s hs | sub5 s hs =>
   obtain ⟨p, rfl⟩ : ∃ p, s = B p := ⟨L s, (B_L s).symm⟩
   have h3 := isSub_len hs
   rw [L_B] at h3
   have hS := St.start hl keepsL
   go_enter Tryz.func109, Tryz.ntmps109
   go_wp2_with (first | (go_at_call 108; (with_reducible refine (St.call hS fun hl => r15Is_is _ _ HV _ hl).mono ?_); rintro e w ⟨rfl, hS⟩) | ((with_reducible refine at_cat ?_); (first | (refine wpList_cat rfl rfl rfl rfl (by first | (simp only [List.length_append, List.length_cons, List.length_nil]; omega) | fail) ?_)); (try simp only [put0, put1, put2, put3, put4])) | ((with_reducible refine at_box ?_); (first | (refine wpList_box_agg rfl hS rfl rfl ?_; intro g w hS)); (try simp only [put0, put1, put2, put3, put4])) | ((with_reducible refine at_load ?_); (first | (refine md_ldw rfl hS rfl rfl (by repeat constructor) ?_) | (refine md_ld0 rfl hS rfl rfl (by repeat constructor) ?_) | (refine md_ld3 rfl hS rfl rfl (by repeat constructor) ?_)); (try simp only [put0, put1, put2, put3, put4])))
   all_goals go_ret
   all_goals exact ⟨ret_B rfl, hS.below⟩
 | colors6 k h1 =>
   have h3 := colors_len ⟨k, by omega⟩
   simp only at h3
   have hS := St.start hl keepsL
   go_enter Tryz.func109, Tryz.ntmps109
   go_wp2_with (first | (go_at_call 108; (with_reducible refine (St.call hS fun hl => r15Is_is _ _ HV _ hl).mono ?_); rintro e w ⟨rfl, hS⟩) | (go_at_call 162; (with_reducible refine (St.call hS fun hl => r09Text_any _ (by omega) _ hl).mono ?_); rintro e w ⟨rfl, hS⟩) | ((with_reducible refine at_cat ?_); (first | (refine wpList_cat rfl rfl rfl rfl (by first | (simp only [List.length_append, List.length_cons, List.length_nil]; omega) | fail) ?_)); (try simp only [put0, put1, put2, put3, put4])) | ((with_reducible refine at_box ?_); (first | (refine wpList_box_agg rfl hS rfl rfl ?_; intro g w hS)); (try simp only [put0, put1, put2, put3, put4])) | ((with_reducible refine at_load ?_); (first | (refine md_ldw rfl hS rfl rfl (by repeat constructor) ?_) | (refine md_ld0 rfl hS rfl rfl (by repeat constructor) ?_) | (refine md_ld1 rfl hS rfl rfl (by repeat constructor) ?_)); (try simp only [put0, put1, put2, put3, put4])))
   all_goals go_ret
   all_goals exact ⟨ret_B rfl, hS.below⟩
 | colors7 k h1 h2 =>
   have h3 := colors_len ⟨k, by omega⟩
   simp only at h3
   have hS := St.start hl keepsL
   go_enter Tryz.func109, Tryz.ntmps109
   go_wp2_with (first | (go_at_call 108; (with_reducible refine (St.call hS fun hl => r15Is_is _ _ HV _ hl).mono ?_); rintro e w ⟨rfl, hS⟩) | (go_at_call 162; (with_reducible refine (St.call hS fun hl => r09Text_any _ (by omega) _ hl).mono ?_); rintro e w ⟨rfl, hS⟩) | ((with_reducible refine at_cat ?_); (first | (refine wpList_cat rfl rfl rfl rfl (by first | (simp only [List.length_append, List.length_cons, List.length_nil]; omega) | fail) ?_)); (try simp only [put0, put1, put2, put3, put4])) | ((with_reducible refine at_box ?_); (first | (refine wpList_box_agg rfl hS rfl rfl ?_; intro g w hS)); (try simp only [put0, put1, put2, put3, put4])) | ((with_reducible refine at_load ?_); (first | (refine md_ldw rfl hS rfl rfl (by repeat constructor) ?_) | (refine md_ld0 rfl hS rfl rfl (by repeat constructor) ?_) | (refine md_ld1 rfl hS rfl rfl (by repeat constructor) ?_)); (try simp only [put0, put1, put2, put3, put4])))
   all_goals go_ret
   all_goals exact ⟨ret_B rfl, hS.below⟩
 | keys8 k h1 h2 | keys9 k h1 h2 =>
   have h3 := keyText_le (m := k)
   have hS := St.start hl keepsL
   go_enter Tryz.func109, Tryz.ntmps109
   go_wp2_with (first | (go_at_call 108; (with_reducible refine (St.call hS fun hl => r15Is_is _ _ HV _ hl).mono ?_); rintro e w ⟨rfl, hS⟩) | (go_at_call 163; (with_reducible refine (St.call hS fun hl => r11Text_any _ (by omega) _ hl).mono ?_); rintro e w ⟨rfl, hS⟩) | ((with_reducible refine at_cat ?_); (first | (refine wpList_cat rfl rfl rfl rfl (by first | (simp only [List.length_append, List.length_cons, List.length_nil]; omega) | fail) ?_)); (try simp only [put0, put1, put2, put3, put4])) | ((with_reducible refine at_box ?_); (first | (refine wpList_box_agg rfl hS rfl rfl ?_; intro g w hS)); (try simp only [put0, put1, put2, put3, put4])) | ((with_reducible refine at_load ?_); (first | (refine md_ldw rfl hS rfl rfl (by repeat constructor) ?_) | (refine md_ld0 rfl hS rfl rfl (by repeat constructor) ?_) | (refine md_ld1 rfl hS rfl rfl (by repeat constructor) ?_)); (try simp only [put0, put1, put2, put3, put4])))
   all_goals go_ret
   all_goals exact ⟨ret_B rfl, hS.below⟩
 | count f hf =>
   have h3 := textOf_len (f := f)
   have hS := St.start hl keepsL
   go_enter Tryz.func109, Tryz.ntmps109
   go_wp2_with (first | (go_at_call 108; (with_reducible refine (St.call hS fun hl => r15Is_is _ _ HV _ hl).mono ?_); rintro e w ⟨rfl, hS⟩) | (go_at_call 80; (with_reducible refine (St.call hS fun hl => rFltText_any _ _).mono ?_); rintro e w ⟨rfl, hS⟩) | ((with_reducible refine at_cat ?_); (first | (refine wpList_cat rfl rfl rfl rfl (by first | (simp only [List.length_append, List.length_cons, List.length_nil]; omega) | fail) ?_)); (try simp only [put0, put1, put2, put3, put4])) | ((with_reducible refine at_box ?_); (first | (refine wpList_box_agg rfl hS rfl rfl ?_; intro g w hS)); (try simp only [put0, put1, put2, put3, put4])) | ((with_reducible refine at_load ?_); (first | (refine md_ldw rfl hS rfl rfl (by repeat constructor) ?_) | (refine md_ld0 rfl hS rfl rfl (by repeat constructor) ?_) | (refine md_ld4 rfl hS rfl rfl (by repeat constructor) ?_)); (try simp only [put0, put1, put2, put3, put4])))
   all_goals go_ret
   all_goals (refine ⟨ret_B ?_, hS.below⟩; simp [mdBody, ptV, countPV])
 | set12 n m h1 h2 h3 h4 =>
   have h5 := itoa99_le n (by omega) h2
   have h6 := itoa99_le m (by omega) h4
   have hS := St.start hl keepsL
   go_enter Tryz.func109, Tryz.ntmps109
   go_wp2_with (first | (go_at_call 108; (with_reducible refine (St.call hS fun hl => r15Is_is _ _ HV _ hl).mono ?_); rintro e w ⟨rfl, hS⟩) | ((with_reducible refine at_box ?_); (first | (refine wpList_box_agg rfl hS rfl rfl ?_; intro g w hS)); (try simp only [put0, put1, put2, put3, put4])) | ((with_reducible refine at_load ?_); (first | (refine md_ldw rfl hS rfl rfl (by repeat constructor) ?_) | (refine md_ld0 rfl hS rfl rfl (by repeat constructor) ?_)); (try simp only [put0, put1, put2, put3, put4])) | ((with_reducible refine region_here ?_); refine wp_region_St hS (by kernel_rfl) (by kernel_rfl) ?_) | ((with_reducible refine runS_end ?_); intro w hS) | ((with_reducible refine rat_cat ?_); (first | (refine runS_cat rfl rfl rfl rfl (by first | (simp only [List.length_append, List.length_cons, List.length_nil]; omega) | fail) (fun _ _ _ h => h) ?_)); (try simp only [put0, put1, put2, put3, put4])) | ((with_reducible refine rat_load ?_); (first | (refine md_rl1 rfl rfl rfl (by repeat constructor) (fun _ _ _ h => h) ?_) | (refine md_rl2 rfl rfl rfl (by repeat constructor) (fun _ _ _ h => h) ?_)); (try simp only [put0, put1, put2, put3, put4])) | ((with_reducible refine rat_call ?_); (first | (refine runS_call (v := ?_) (args := ?_) 111 rfl (fun _ _ _ h => h) ?_ ?_ ?_; rotate_left 2; (focus ((intro w; go_simp) <;> with_reducible rfl)); (focus (intro w hS; refine St.callE hS (fun hl => rText_any _ _ (by omega) (by omega)) ?_; with_reducible rfl)))); (try simp only [put0, put1, put2, put3, put4])) | ((with_reducible refine runS_here ?_); (refine runS_val (v := ?_) rfl (fun _ _ _ h => h) ?_ ?_; rotate_left; (focus ((intro w hS; go_simp) <;> with_reducible rfl))); (try simp only [put0, put1, put2, put3, put4])))
   all_goals go_ret
   all_goals (refine ⟨ret_B ?_, hS.below⟩; simp [mdBody, ptV])
 | add13 n m h1 h2 h3 h4 =>
   have h5 := itoa99_le n h1 h2
   have h6 := itoa99_le m h3 h4
   have hS := St.start hl keepsL
   go_enter Tryz.func109, Tryz.ntmps109
   go_wp2_with (first | (go_at_call 108; (with_reducible refine (St.call hS fun hl => r15Is_is _ _ HV _ hl).mono ?_); rintro e w ⟨rfl, hS⟩) | ((with_reducible refine at_box ?_); (first | (refine wpList_box_agg rfl hS rfl rfl ?_; intro g w hS)); (try simp only [put0, put1, put2, put3, put4])) | ((with_reducible refine at_load ?_); (first | (refine md_ldw rfl hS rfl rfl (by repeat constructor) ?_) | (refine md_ld0 rfl hS rfl rfl (by repeat constructor) ?_)); (try simp only [put0, put1, put2, put3, put4])) | ((with_reducible refine region_here ?_); refine wp_region_St hS (by kernel_rfl) (by kernel_rfl) ?_) | ((with_reducible refine runS_end ?_); intro w hS) | ((with_reducible refine rat_cat ?_); (first | (refine runS_cat rfl rfl rfl rfl (by first | (simp only [List.length_append, List.length_cons, List.length_nil]; omega) | fail) (fun _ _ _ h => h) ?_)); (try simp only [put0, put1, put2, put3, put4])) | ((with_reducible refine rat_load ?_); (first | (refine md_rl1 rfl rfl rfl (by repeat constructor) (fun _ _ _ h => h) ?_) | (refine md_rl2 rfl rfl rfl (by repeat constructor) (fun _ _ _ h => h) ?_)); (try simp only [put0, put1, put2, put3, put4])) | ((with_reducible refine rat_call ?_); (first | (refine runS_call (v := ?_) (args := ?_) 111 rfl (fun _ _ _ h => h) ?_ ?_ ?_; rotate_left 2; (focus ((intro w; go_simp) <;> with_reducible rfl)); (focus (intro w hS; refine St.callE hS (fun hl => rText_any _ _ (by omega) (by omega)) ?_; with_reducible rfl)))); (try simp only [put0, put1, put2, put3, put4])) | ((with_reducible refine runS_here ?_); (refine runS_val (v := ?_) rfl (fun _ _ _ h => h) ?_ ?_; rotate_left; (focus ((intro w hS; go_simp) <;> with_reducible rfl))); (try simp only [put0, put1, put2, put3, put4])))
   all_goals go_ret
   all_goals (refine ⟨ret_B ?_, hS.below⟩; simp [mdBody, ptPV])
theorem r15Text_any (r : Md) (w : World) (hl : Laid w) : Calls Tryz.prog 109 #[.agg r.cells] w fun e w' => e = .returned (.string (B (mdText r))) ∧ Below w.heap.size w w' := by
 cases hv : mdIs r with
 | false => rw [mdText_no hv]; exact r15Text_none r (Lib.hid hv.symm) w hl
 | true => rw [show mdText r = mdBody r from if_pos hv]; exact r15Text_some r (md_form hv) (Lib.hid hv.symm) w hl
theorem r15Text_is (r : Md) (T : Str) (h : Hid (mdText r = T)) (w : World) (hl : Laid w) : Calls Tryz.prog 109 #[.agg r.cells] w fun e w' => e = .returned (.string (B T)) ∧ Below w.heap.size w w' :=
 (r15Text_any r w hl).mono fun e w' h' => ⟨by rw [h'.1, h.out], h'.2⟩
end Go.Proofs.YtdnnbfbhifelkaaGreatDoor
namespace Go.Proofs.YtdnnbfbhifelkaaGreatDoor
attribute [local irreducible] rkFold keyText rkOf
attribute [local irreducible] wpList Code.wp Calls
open Go.ChangeShapes Go.WideShapes Go.RowKit
end Go.Proofs.YtdnnbfbhifelkaaGreatDoor
namespace Go.Proofs.YtdnnbfbhifelkaaGreatDoor
attribute [local irreducible] wpList Code.wp Calls
open Go.ChangeShapes Go.WideShapes Go.RowKit
end Go.Proofs.YtdnnbfbhifelkaaGreatDoor
