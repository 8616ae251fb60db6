/- Plain words: a slice's value. Conditions: none. Plain words on memory: costs and pools. Conditions: none. Plain words on memory: effects' rows; modifications that an effect points to. Conditions: n -/
import Derived.Test.YtdnnbfbhifelkaaGreatDoorQ1
import Derived.Test.YtdnnbfbhifelkaaGreatDoorQ5
import Derived.Test.YtdnnbfbhifelkaaGreatDoorQ7
import Derived.Laws.CopyOwn
import Derived.ChangeKeysEq
set_option linter.all false
set_option maxRecDepth 100000
set_option maxHeartbeats 16000000
namespace Go.Proofs.YtdnnbfbhifelkaaGreatDoor
open Go.ChangeShapes Go.WideShapes Go.RowKit
structure Sl where
 a : Option Addr
 n : Nat
 c : Nat
theorem cos_one (r : Co) : r.cells.all (·.oneCell') = true := by simp [Co.cells, Value.oneCell']
theorem cos_info : (Tryz.prog.info? 86).map (·.size) = some 7 := by kernel_rfl
theorem cos_new : ∀ w : World, (zeroValue 86).run Tryz.prog w = .ok (.agg (Co.cells zeroCo)) w := fun _ => by kernel_rfl
theorem cos_build_ : ∀ w : World, (Instr.build 86 ([] : List (Nat × Value)).toArray).run Tryz.prog w = .ok (.agg (Co.cells ⟨(zeroCo).g, (zeroCo).x, (zeroCo).c0, (zeroCo).c1, (zeroCo).c2, (zeroCo).c3, (zeroCo).c4⟩)) w := fun _ => by kernel_rfl
def cos_shape_ {ops rest a w Q dst ty pos af gd} (h : wpList Tryz.prog ops Q ((⟨dst, .build 86 #[], ty, pos, af, gd⟩ : Oper) :: rest) a w) := h
def cos_bld_ {ops rest} {a : Act} {w Q dst ty pos af gd} hw h :=
 @wpList_bld w ops rest (⟨dst, .build 86 #[], ty, pos, af, gd⟩ : Oper) a Q 86 [] rfl hw [] (by simp only [List.map_cons, List.map_nil]) _ (cos_build_) h
theorem cos_build_0 (x0 : Int) : ∀ w : World, (Instr.build 86 ([(0, .int .i64 x0)] : List (Nat × Value)).toArray).run Tryz.prog w = .ok (.agg (Co.cells ⟨x0, (zeroCo).x, (zeroCo).c0, (zeroCo).c1, (zeroCo).c2, (zeroCo).c3, (zeroCo).c4⟩)) w := fun _ => by kernel_rfl
def cos_shape_0 {ops rest a w Q dst ty pos af gd y0} (h : wpList Tryz.prog ops Q ((⟨dst, .build 86 #[(0, y0)], ty, pos, af, gd⟩ : Oper) :: rest) a w) := h
def cos_bld_0 {x0 : Int} {ops rest} {a : Act} {w Q dst ty pos af gd y0} hw (h0 : a.eval y0 = .int .i64 x0) h :=
 @wpList_bld w ops rest (⟨dst, .build 86 #[(0, y0)], ty, pos, af, gd⟩ : Oper) a Q 86 [(0, y0)] rfl hw [(0, .int .i64 x0)] (by simp only [List.map_cons, List.map_nil, h0]) _ (cos_build_0 x0) h
theorem cos_at0 (r : Co) : (Co.cells r)[0]? = some (.int .i64 r.g) := rfl
theorem cos_set0 (r : Co) (x : Int) : (Co.cells r).toList.take 0 ++ (Value.cells (.int .i64 x)).toList ++ (Co.cells r).toList.drop (0 + (Value.cells (.int .i64 x)).size) = (Co.cells ⟨x, r.x, r.c0, r.c1, r.c2, r.c3, r.c4⟩).toList := rfl
theorem cos_at1 (r : Co) : (Co.cells r)[1]? = some (.int .i64 r.x) := rfl
theorem cos_set1 (r : Co) (x : Int) : (Co.cells r).toList.take 1 ++ (Value.cells (.int .i64 x)).toList ++ (Co.cells r).toList.drop (1 + (Value.cells (.int .i64 x)).size) = (Co.cells ⟨r.g, x, r.c0, r.c1, r.c2, r.c3, r.c4⟩).toList := rfl
theorem cos_at2 (r : Co) : (Co.cells r)[2]? = some (.int .i64 r.c0) := rfl
theorem cos_set2 (r : Co) (x : Int) : (Co.cells r).toList.take 2 ++ (Value.cells (.int .i64 x)).toList ++ (Co.cells r).toList.drop (2 + (Value.cells (.int .i64 x)).size) = (Co.cells ⟨r.g, r.x, x, r.c1, r.c2, r.c3, r.c4⟩).toList := rfl
theorem cos_at3 (r : Co) : (Co.cells r)[3]? = some (.int .i64 r.c1) := rfl
theorem cos_set3 (r : Co) (x : Int) : (Co.cells r).toList.take 3 ++ (Value.cells (.int .i64 x)).toList ++ (Co.cells r).toList.drop (3 + (Value.cells (.int .i64 x)).size) = (Co.cells ⟨r.g, r.x, r.c0, x, r.c2, r.c3, r.c4⟩).toList := rfl
theorem cos_at4 (r : Co) : (Co.cells r)[4]? = some (.int .i64 r.c2) := rfl
theorem cos_set4 (r : Co) (x : Int) : (Co.cells r).toList.take 4 ++ (Value.cells (.int .i64 x)).toList ++ (Co.cells r).toList.drop (4 + (Value.cells (.int .i64 x)).size) = (Co.cells ⟨r.g, r.x, r.c0, r.c1, x, r.c3, r.c4⟩).toList := rfl
theorem cos_at5 (r : Co) : (Co.cells r)[5]? = some (.int .i64 r.c3) := rfl
theorem cos_set5 (r : Co) (x : Int) : (Co.cells r).toList.take 5 ++ (Value.cells (.int .i64 x)).toList ++ (Co.cells r).toList.drop (5 + (Value.cells (.int .i64 x)).size) = (Co.cells ⟨r.g, r.x, r.c0, r.c1, r.c2, x, r.c4⟩).toList := rfl
theorem cos_at6 (r : Co) : (Co.cells r)[6]? = some (.int .i64 r.c4) := rfl
theorem cos_set6 (r : Co) (x : Int) : (Co.cells r).toList.take 6 ++ (Value.cells (.int .i64 x)).toList ++ (Co.cells r).toList.drop (6 + (Value.cells (.int .i64 x)).size) = (Co.cells ⟨r.g, r.x, r.c0, r.c1, r.c2, r.c3, x⟩).toList := rfl
theorem cos_put (r x : Co) : (Co.cells r).toList.take 0 ++ (Value.cells (.agg (Co.cells x))).toList ++ (Co.cells r).toList.drop (0 + (Value.cells (.agg (Co.cells x))).size) = (Co.cells x).toList := rfl
def cos_st0 {L w0 w rows ops rest o a Q x y} ho hS hw {g} hx {v} hy {r T' rows'} hm h :=
 @wpList_st L w0 w rows ops rest o a Q 3 x y ho hS hw g 0 hx _ hy _ _ T' rows' hm (by exact Nat.le_of_ble_eq_true rfl) (cos_set0 r v) infoInt1 (by simp [Value.cells, Value.oneCell']) h
def cos_st1 {L w0 w rows ops rest o a Q x y} ho hS hw {g} hx {v} hy {r T' rows'} hm h :=
 @wpList_st L w0 w rows ops rest o a Q 3 x y ho hS hw g 1 hx _ hy _ _ T' rows' hm (by exact Nat.le_of_ble_eq_true rfl) (cos_set1 r v) infoInt1 (by simp [Value.cells, Value.oneCell']) h
def cos_st2 {L w0 w rows ops rest o a Q x y} ho hS hw {g} hx {v} hy {r T' rows'} hm h :=
 @wpList_st L w0 w rows ops rest o a Q 3 x y ho hS hw g 2 hx _ hy _ _ T' rows' hm (by exact Nat.le_of_ble_eq_true rfl) (cos_set2 r v) infoInt1 (by simp [Value.cells, Value.oneCell']) h
def cos_st3 {L w0 w rows ops rest o a Q x y} ho hS hw {g} hx {v} hy {r T' rows'} hm h :=
 @wpList_st L w0 w rows ops rest o a Q 3 x y ho hS hw g 3 hx _ hy _ _ T' rows' hm (by exact Nat.le_of_ble_eq_true rfl) (cos_set3 r v) infoInt1 (by simp [Value.cells, Value.oneCell']) h
def cos_st4 {L w0 w rows ops rest o a Q x y} ho hS hw {g} hx {v} hy {r T' rows'} hm h :=
 @wpList_st L w0 w rows ops rest o a Q 3 x y ho hS hw g 4 hx _ hy _ _ T' rows' hm (by exact Nat.le_of_ble_eq_true rfl) (cos_set4 r v) infoInt1 (by simp [Value.cells, Value.oneCell']) h
def cos_st5 {L w0 w rows ops rest o a Q x y} ho hS hw {g} hx {v} hy {r T' rows'} hm h :=
 @wpList_st L w0 w rows ops rest o a Q 3 x y ho hS hw g 5 hx _ hy _ _ T' rows' hm (by exact Nat.le_of_ble_eq_true rfl) (cos_set5 r v) infoInt1 (by simp [Value.cells, Value.oneCell']) h
def cos_st6 {L w0 w rows ops rest o a Q x y} ho hS hw {g} hx {v} hy {r T' rows'} hm h :=
 @wpList_st L w0 w rows ops rest o a Q 3 x y ho hS hw g 6 hx _ hy _ _ T' rows' hm (by exact Nat.le_of_ble_eq_true rfl) (cos_set6 r v) infoInt1 (by simp [Value.cells, Value.oneCell']) h
def cos_stw {L w0 w rows ops rest o a Q x y} ho hS hw {g} hx {v} hy {r T' rows'} hm h :=
 @wpList_st L w0 w rows ops rest o a Q 86 x y ho hS hw g 0 hx _ hy _ _ T' rows' hm (by exact Nat.le_of_ble_eq_true rfl) (cos_put r v) cos_info (cos_one v) h
def cos_ld0 {L w0 w rows ops rest o a Q x} ho hS hw {g} hx {r T'} hm h :=
 @wpList_ld_cell L w0 w rows ops rest o a Q 3 x ho hS hw g 0 hx _ T' hm scal3 _ (cos_at0 r) h
def cos_ld1 {L w0 w rows ops rest o a Q x} ho hS hw {g} hx {r T'} hm h :=
 @wpList_ld_cell L w0 w rows ops rest o a Q 3 x ho hS hw g 1 hx _ T' hm scal3 _ (cos_at1 r) h
def cos_ld2 {L w0 w rows ops rest o a Q x} ho hS hw {g} hx {r T'} hm h :=
 @wpList_ld_cell L w0 w rows ops rest o a Q 3 x ho hS hw g 2 hx _ T' hm scal3 _ (cos_at2 r) h
def cos_ld3 {L w0 w rows ops rest o a Q x} ho hS hw {g} hx {r T'} hm h :=
 @wpList_ld_cell L w0 w rows ops rest o a Q 3 x ho hS hw g 3 hx _ T' hm scal3 _ (cos_at3 r) h
def cos_ld4 {L w0 w rows ops rest o a Q x} ho hS hw {g} hx {r T'} hm h :=
 @wpList_ld_cell L w0 w rows ops rest o a Q 3 x ho hS hw g 4 hx _ T' hm scal3 _ (cos_at4 r) h
def cos_ld5 {L w0 w rows ops rest o a Q x} ho hS hw {g} hx {r T'} hm h :=
 @wpList_ld_cell L w0 w rows ops rest o a Q 3 x ho hS hw g 5 hx _ T' hm scal3 _ (cos_at5 r) h
def cos_ld6 {L w0 w rows ops rest o a Q x} ho hS hw {g} hx {r T'} hm h :=
 @wpList_ld_cell L w0 w rows ops rest o a Q 3 x ho hS hw g 6 hx _ T' hm scal3 _ (cos_at6 r) h
def cos_ldw {L w0 w rows ops rest o a Q x} ho hS hw {g} hx {r T'} hm h :=
 @wpList_ld_row L w0 w rows ops rest o a Q 86 x ho hS hw g hx (Co.cells r) T' hm _ Tryz.underlying86 rfl cos_info h
def cos_rlw {L w0 rows ops rest o a Q x} ho hw {g} hx {r : Co} {T'} hm hq h :=
 @runS_val L w0 rows ops Q o rest a (.agg (Co.cells r)) hw hq (fun w hS => @run_ld_part L w0 w rows o a hS 86 x ho g 0 hx _ _ T' hm (fun j v hj => by simpa using hj) _ Tryz.underlying86 rfl cos_info) h
theorem cos_res2 {L : World → Prop} {w0 w : World} {rows : List Row} {a : Act} (hS : St L w0 rows w) {fn : Func} {p q : Tmp} (hf : fn.results = #[.cell p 86, .tmp q]) {g : Nat} (hp : a.tmps.getD p undef = .pointer (some ⟨g, 0, none⟩)) {r : Co} {T' : Nat} (hm : RowAt g (Co.cells r) T' rows) {v : Value} (hq : a.tmps.getD q undef = v) (hdef : a.defers = []) {R : Ending → World → Prop} (hR : Below w0.heap.size w0 w → R (.returned (.tuple #[.agg (Co.cells r), v])) w) : bodyPost Tryz.prog fn R .ret a w :=
 bodyPost_ret ((results_row_tmp hf a.tmps w g T' (Co.cells r) (0, 0) _ hp (hS.row hm) Tryz.underlying86 rfl cos_info).trans (by rw [hq])) hdef (hR hS.below)
theorem cos_res {L : World → Prop} {w0 w : World} {rows : List Row} {a : Act} (hS : St L w0 rows w) {fn : Func} {p : Tmp} (hf : fn.results = #[.cell p 86]) {g : Nat} (hp : a.tmps.getD p undef = .pointer (some ⟨g, 0, none⟩)) {r : Co} {T' : Nat} (hm : RowAt g (Co.cells r) T' rows) (hdef : a.defers = []) {R : Ending → World → Prop} (hR : Below w0.heap.size w0 w → R (.returned (.agg (Co.cells r))) w) : bodyPost Tryz.prog fn R .ret a w :=
 St.result hS hf hp hm Tryz.underlying86 rfl cos_info hdef hR
theorem pol_one (r : Po) : r.cells.all (·.oneCell') = true := by simp [Po.cells, Value.oneCell']
theorem pol_info : (Tryz.prog.info? 31).map (·.size) = some 6 := by kernel_rfl
theorem pol_new : ∀ w : World, (zeroValue 31).run Tryz.prog w = .ok (.agg (Po.cells zeroPo)) w := fun _ => by kernel_rfl
theorem pol_build_ : ∀ w : World, (Instr.build 31 ([] : List (Nat × Value)).toArray).run Tryz.prog w = .ok (.agg (Po.cells ⟨(zeroPo).g, (zeroPo).c0, (zeroPo).c1, (zeroPo).c2, (zeroPo).c3, (zeroPo).c4⟩)) w := fun _ => by kernel_rfl
def pol_shape_ {ops rest a w Q dst ty pos af gd} (h : wpList Tryz.prog ops Q ((⟨dst, .build 31 #[], ty, pos, af, gd⟩ : Oper) :: rest) a w) := h
def pol_bld_ {ops rest} {a : Act} {w Q dst ty pos af gd} hw h :=
 @wpList_bld w ops rest (⟨dst, .build 31 #[], ty, pos, af, gd⟩ : Oper) a Q 31 [] rfl hw [] (by simp only [List.map_cons, List.map_nil]) _ (pol_build_) h
theorem pol_build_0 (x0 : Int) : ∀ w : World, (Instr.build 31 ([(0, .int .i64 x0)] : List (Nat × Value)).toArray).run Tryz.prog w = .ok (.agg (Po.cells ⟨x0, (zeroPo).c0, (zeroPo).c1, (zeroPo).c2, (zeroPo).c3, (zeroPo).c4⟩)) w := fun _ => by kernel_rfl
def pol_shape_0 {ops rest a w Q dst ty pos af gd y0} (h : wpList Tryz.prog ops Q ((⟨dst, .build 31 #[(0, y0)], ty, pos, af, gd⟩ : Oper) :: rest) a w) := h
def pol_bld_0 {x0 : Int} {ops rest} {a : Act} {w Q dst ty pos af gd y0} hw (h0 : a.eval y0 = .int .i64 x0) h :=
 @wpList_bld w ops rest (⟨dst, .build 31 #[(0, y0)], ty, pos, af, gd⟩ : Oper) a Q 31 [(0, y0)] rfl hw [(0, .int .i64 x0)] (by simp only [List.map_cons, List.map_nil, h0]) _ (pol_build_0 x0) h
theorem pol_at0 (r : Po) : (Po.cells r)[0]? = some (.int .i64 r.g) := rfl
theorem pol_at1 (r : Po) : (Po.cells r)[1]? = some (.int .i64 r.c0) := rfl
theorem pol_at2 (r : Po) : (Po.cells r)[2]? = some (.int .i64 r.c1) := rfl
theorem pol_at3 (r : Po) : (Po.cells r)[3]? = some (.int .i64 r.c2) := rfl
theorem pol_at4 (r : Po) : (Po.cells r)[4]? = some (.int .i64 r.c3) := rfl
theorem pol_at5 (r : Po) : (Po.cells r)[5]? = some (.int .i64 r.c4) := rfl
theorem pol_put (r x : Po) : (Po.cells r).toList.take 0 ++ (Value.cells (.agg (Po.cells x))).toList ++ (Po.cells r).toList.drop (0 + (Value.cells (.agg (Po.cells x))).size) = (Po.cells x).toList := rfl
def pol_stw {L w0 w rows ops rest o a Q x y} ho hS hw {g} hx {v} hy {r T' rows'} hm h :=
 @wpList_st L w0 w rows ops rest o a Q 31 x y ho hS hw g 0 hx _ hy _ _ T' rows' hm (by exact Nat.le_of_ble_eq_true rfl) (pol_put r v) pol_info (pol_one v) h
def pol_ld0 {L w0 w rows ops rest o a Q x} ho hS hw {g} hx {r T'} hm h :=
 @wpList_ld_cell L w0 w rows ops rest o a Q 3 x ho hS hw g 0 hx _ T' hm scal3 _ (pol_at0 r) h
def pol_ld1 {L w0 w rows ops rest o a Q x} ho hS hw {g} hx {r T'} hm h :=
 @wpList_ld_cell L w0 w rows ops rest o a Q 3 x ho hS hw g 1 hx _ T' hm scal3 _ (pol_at1 r) h
def pol_ld2 {L w0 w rows ops rest o a Q x} ho hS hw {g} hx {r T'} hm h :=
 @wpList_ld_cell L w0 w rows ops rest o a Q 3 x ho hS hw g 2 hx _ T' hm scal3 _ (pol_at2 r) h
def pol_ld3 {L w0 w rows ops rest o a Q x} ho hS hw {g} hx {r T'} hm h :=
 @wpList_ld_cell L w0 w rows ops rest o a Q 3 x ho hS hw g 3 hx _ T' hm scal3 _ (pol_at3 r) h
def pol_ld4 {L w0 w rows ops rest o a Q x} ho hS hw {g} hx {r T'} hm h :=
 @wpList_ld_cell L w0 w rows ops rest o a Q 3 x ho hS hw g 4 hx _ T' hm scal3 _ (pol_at4 r) h
def pol_ld5 {L w0 w rows ops rest o a Q x} ho hS hw {g} hx {r T'} hm h :=
 @wpList_ld_cell L w0 w rows ops rest o a Q 3 x ho hS hw g 5 hx _ T' hm scal3 _ (pol_at5 r) h
def pol_ldw {L w0 w rows ops rest o a Q x} ho hS hw {g} hx {r T'} hm h :=
 @wpList_ld_row L w0 w rows ops rest o a Q 31 x ho hS hw g hx (Po.cells r) T' hm _ Tryz.underlying31 rfl pol_info h
def pol_rlw {L w0 rows ops rest o a Q x} ho hw {g} hx {r : Po} {T'} hm hq h :=
 @runS_val L w0 rows ops Q o rest a (.agg (Po.cells r)) hw hq (fun w hS => @run_ld_part L w0 w rows o a hS 31 x ho g 0 hx _ _ T' hm (fun j v hj => by simpa using hj) _ Tryz.underlying31 rfl pol_info) h
theorem pol_res2 {L : World → Prop} {w0 w : World} {rows : List Row} {a : Act} (hS : St L w0 rows w) {fn : Func} {p q : Tmp} (hf : fn.results = #[.cell p 31, .tmp q]) {g : Nat} (hp : a.tmps.getD p undef = .pointer (some ⟨g, 0, none⟩)) {r : Po} {T' : Nat} (hm : RowAt g (Po.cells r) T' rows) {v : Value} (hq : a.tmps.getD q undef = v) (hdef : a.defers = []) {R : Ending → World → Prop} (hR : Below w0.heap.size w0 w → R (.returned (.tuple #[.agg (Po.cells r), v])) w) : bodyPost Tryz.prog fn R .ret a w :=
 bodyPost_ret ((results_row_tmp hf a.tmps w g T' (Po.cells r) (0, 0) _ hp (hS.row hm) Tryz.underlying31 rfl pol_info).trans (by rw [hq])) hdef (hR hS.below)
def Co.col (c : Co) : Array Value := #[.int .i64 c.c0, .int .i64 c.c1, .int .i64 c.c2, .int .i64 c.c3, .int .i64 c.c4]
theorem info5 : (Tryz.prog.info? 84).map (·.size) = some 5 := by kernel_rfl
theorem co_col (c : Co) : ∀ j v, (Co.col c)[j]? = some v → (Co.cells c)[2 + j]? = some v := by
 intro j v h
 match j, h with
 | 0, h => exact h
 | 1, h => exact h
 | 2, h => exact h
 | 3, h => exact h
 | 4, h => exact h
 | j + 5, h => rw [Array.getElem?_eq_none (by simp [Co.col])] at h; cases h
theorem co_ldC {L : World → Prop} {w0 w : World} {rows : List Row} {ops : Array Oper} {rest : List Oper} {o : Oper} {a : Act} {Q : Exit → Act → World → Prop} {x : Operand} (ho : o.op = .load 84 x) (hS : St L w0 rows w) (hw : Region.wanted o (yielded ops a.tmps) = true) {g : Nat} (hx : a.eval x = .pointer (some ⟨g, 2, none⟩)) {r : Co} {T' : Nat} (hm : RowAt g (Co.cells r) T' rows) (h : wpList Tryz.prog ops Q rest (a.put o.dst (.agg #[.int .i64 r.c0, .int .i64 r.c1, .int .i64 r.c2, .int .i64 r.c3, .int .i64 r.c4])) w) : wpList Tryz.prog ops Q (o :: rest) a w :=
 wpList_ld_part 84 ho hS hw 2 hx hm (co_col r) Tryz.underlying84 rfl info5 h
theorem wpList_cp {L : World → Prop} {w0 w : World} {rows : List Row} {ops : Array Oper} {rest : List Oper} {o : Oper} {a : Act} {Q : Exit → Act → World → Prop} (d s : Operand) (hgd : o.guard = none) (ho : o.op = .call { callee := .builtin .copy, args := #[d, s], argTypes := #[126, 126] }) (hS : St L w0 rows w)
 {g g2 off off2 n1 c1 n2 c2 : Nat} (hd : a.eval d = .slice (some ⟨g, off, none⟩) n1 c1) (hs : a.eval s = .slice (some ⟨g2, off2, none⟩) n2 c2) (cs : List Value) (hn : cs.length = Nat.min n2 n1) {cur2 : Array Value} {T2 : Nat} (h2 : RowAt g2 cur2 T2 rows) (hp : ∀ j v, cs[j]? = some v → cur2[off2 + j]? = some v)
 {cur new : Array Value} {T : Nat} {rows' : List Row} (hm : RowSet g cur new T rows rows') (hfit : off + cs.length ≤ cur.size) (hnew : new = (cur.toList.take off ++ cs ++ cur.toList.drop (off + cs.length)).toArray) (h1 : ∀ v ∈ cs, v.oneCell' = true)
 (h : ∀ w', St L w0 rows' w' → wpList Tryz.prog ops Q rest (a.put o.dst (goInt cs.length)) w') : wpList Tryz.prog ops Q (o :: rest) a w :=
 wpList_copy_own hgd d s 126 126 ho 3 Tryz.underlying126 infoInt1 g off n1 c1 ⟨g2, off2, none⟩ n2 c2 hd hs cur T (hS.has _ hm.mem).1 cs hn
  (fun j v hj => by
   have e : (⟨g2, off2, none⟩ : Addr).add j = ⟨g2, off2 + j, none⟩ := by unfold Addr.add; split <;> simp_all
   rw [e]; exact hS.cellI h2 _ (hp j v hj)) hfit h1 (h _ (by have := hS.set hm; rw [hnew] at this; simpa using this))

theorem cells_int : Tryz.prog.cellsOf 3 = 1 := by kernel_rfl
theorem at_copy {w : World} {ops : Array Oper} {rest : List Oper} {a : Act} {Q : Exit → Act → World → Prop} {dst : Option Tmp} {ty : TypeId} {pos : String} {af : Array Edge} {gd : Option (Nat × Bool)} {d s : Operand} {t1 t2 : TypeId} (h : wpList Tryz.prog ops Q ((⟨dst, .call { callee := .builtin .copy, args := #[d, s], argTypes := #[t1, t2] }, ty, pos, af, gd⟩ : Oper) :: rest) a w) : wpList Tryz.prog ops Q ((⟨dst, .call { callee := .builtin .copy, args := #[d, s], argTypes := #[t1, t2] }, ty, pos, af, gd⟩ : Oper) :: rest) a w := h
theorem infoI3 : ∃ i, Tryz.prog.info? 3 = some i := by
 have h := infoInt1
 cases hq : Tryz.prog.info? 3 with
 | none => rw [hq] at h; cases h
 | some i => exact ⟨i, rfl⟩
theorem eq_ints5 (d : Nat) (a0 a1 a2 a3 a4 b0 b1 b2 b3 b4 : Int) (w : World) : (Op.equalIn (d + 2) 84 (.agg #[.int .i64 a0, .int .i64 a1, .int .i64 a2, .int .i64 a3, .int .i64 a4]) (.agg #[.int .i64 b0, .int .i64 b1, .int .i64 b2, .int .i64 b3, .int .i64 b4])).run Tryz.prog w = .ok (a0 == b0 && (a1 == b1 && (a2 == b2 && (a3 == b3 && a4 == b4)))) w := by
 obtain ⟨i, hi⟩ := infoI3
 rw [run_equalIn_array w (d + 1) _ _ Tryz.underlying84 hi, cells_int]
 simp [Op.eqItems, List.range, List.range.loop, part, go_sem, Tryz.underlying3, Sem.run_bind]
 repeat' split
 all_goals simp_all
theorem eq_co (r q : Co) (w : World) : (binOp .eql 86 (.agg r.cells) (.agg q.cells)).run Tryz.prog w = .ok (.bool (coEq r q)) w := by
 rw [run_eql_struct, run_equalIn_agg w 9999 86 _ _ (by kernel_rfl) (by kernel_rfl)]
 simp [coEq, Co.cells, go_sem, Tryz.underlying86, Tryz.underlying3, eq_ints5 9997]
 repeat' split
 all_goals simp_all
theorem neq_co (r q : Co) (w : World) : (binOp .neq 86 (.agg r.cells) (.agg q.cells)).run Tryz.prog w = .ok (.bool (!coEq r q)) w := by
 have h := eq_co r q w
 rw [run_eql_struct] at h
 rw [run_neq_struct]
 generalize (Op.equalIn 10000 86 (.agg r.cells) (.agg q.cells)).run Tryz.prog w = x at *
 cases x <;> simp_all [Result.andThen]
theorem eq_po (r q : Po) (w : World) : (binOp .eql 31 (.agg r.cells) (.agg q.cells)).run Tryz.prog w = .ok (.bool (poEq r q)) w := by
 obtain ⟨i, hi⟩ := infoI3
 rw [run_eql_struct, run_equalIn_array w 9999 _ _ Tryz.underlying31 hi, cells_int]
 simp [poEq, Po.cells, Op.eqItems, List.range, List.range.loop, part, go_sem, Tryz.underlying3, Sem.run_bind]
 repeat' split
 all_goals simp_all
theorem neq_po (r q : Po) (w : World) : (binOp .neq 31 (.agg r.cells) (.agg q.cells)).run Tryz.prog w = .ok (.bool (!poEq r q)) w := by
 have h := eq_po r q w
 rw [run_eql_struct] at h
 rw [run_neq_struct]
 generalize (Op.equalIn 10000 31 (.agg r.cells) (.agg q.cells)).run Tryz.prog w = x at *
 cases x <;> simp_all [Result.andThen]
theorem co_ix0 (c0 c1 c2 c3 c4 : Int) : ∀ w : World, (Instr.index 84 (.agg #[.int .i64 c0, .int .i64 c1, .int .i64 c2, .int .i64 c3, .int .i64 c4]) (.int .i64 0)).run Tryz.prog w = .ok (.int .i64 c0) w := fun _ => by kernel_rfl
theorem co_ix1 (c0 c1 c2 c3 c4 : Int) : ∀ w : World, (Instr.index 84 (.agg #[.int .i64 c0, .int .i64 c1, .int .i64 c2, .int .i64 c3, .int .i64 c4]) (.int .i64 1)).run Tryz.prog w = .ok (.int .i64 c1) w := fun _ => by kernel_rfl
theorem co_ix2 (c0 c1 c2 c3 c4 : Int) : ∀ w : World, (Instr.index 84 (.agg #[.int .i64 c0, .int .i64 c1, .int .i64 c2, .int .i64 c3, .int .i64 c4]) (.int .i64 2)).run Tryz.prog w = .ok (.int .i64 c2) w := fun _ => by kernel_rfl
theorem co_ix3 (c0 c1 c2 c3 c4 : Int) : ∀ w : World, (Instr.index 84 (.agg #[.int .i64 c0, .int .i64 c1, .int .i64 c2, .int .i64 c3, .int .i64 c4]) (.int .i64 3)).run Tryz.prog w = .ok (.int .i64 c3) w := fun _ => by kernel_rfl
theorem co_ix4 (c0 c1 c2 c3 c4 : Int) : ∀ w : World, (Instr.index 84 (.agg #[.int .i64 c0, .int .i64 c1, .int .i64 c2, .int .i64 c3, .int .i64 c4]) (.int .i64 4)).run Tryz.prog w = .ok (.int .i64 c4) w := fun _ => by kernel_rfl
structure Em where
 op : Int
 ref : Rf
 amt : Am
 ctr : Int
 zone : Int
 card : ByteArray
 flt : Flt
 pool : Po
 mods : Sl
def Em.cells (r : Em) : Array Value := #[.int .i64 r.op, .int .i64 r.ref.kind, .int .i64 r.ref.n, .int .i64 r.ref.f.zone, .int .i64 r.ref.f.who, .int .i64 r.ref.f.self, .int .i64 r.ref.f.types, .int .i64 r.ref.f.ntypes, .int .i64 r.ref.f.colors, .int .i64 r.ref.f.ncolors, .string r.ref.f.sub, .int .i64 r.ref.f.keys, .int .i64 r.ref.f.tap, .int .i64 r.ref.f.pk, .int .i64 r.ref.f.pn, .int .i64 r.ref.f.tk, .int .i64 r.ref.f.tn, .int .i64 r.ref.f.vk, .int .i64 r.ref.f.vn, .int .i64 r.amt.k, .int .i64 r.amt.n, .int .i64 r.amt.c, .int .i64 r.amt.f.zone, .int .i64 r.amt.f.who, .int .i64 r.amt.f.self, .int .i64 r.amt.f.types, .int .i64 r.amt.f.ntypes, .int .i64 r.amt.f.colors, .int .i64 r.amt.f.ncolors, .string r.amt.f.sub, .int .i64 r.amt.f.keys, .int .i64 r.amt.f.tap, .int .i64 r.amt.f.pk, .int .i64 r.amt.f.pn, .int .i64 r.amt.f.tk, .int .i64 r.amt.f.tn, .int .i64 r.amt.f.vk, .int .i64 r.amt.f.vn, .int .i64 r.ctr, .int .i64 r.zone, .string r.card, .int .i64 r.flt.zone, .int .i64 r.flt.who, .int .i64 r.flt.self, .int .i64 r.flt.types, .int .i64 r.flt.ntypes, .int .i64 r.flt.colors, .int .i64 r.flt.ncolors, .string r.flt.sub, .int .i64 r.flt.keys, .int .i64 r.flt.tap, .int .i64 r.flt.pk, .int .i64 r.flt.pn, .int .i64 r.flt.tk, .int .i64 r.flt.tn, .int .i64 r.flt.vk, .int .i64 r.flt.vn, .int .i64 r.pool.g, .int .i64 r.pool.c0, .int .i64 r.pool.c1, .int .i64 r.pool.c2, .int .i64 r.pool.c3, .int .i64 r.pool.c4, .slice r.mods.a r.mods.n r.mods.c]
def zeroEm : Em := ⟨0, zeroR, zeroA, 0, 0, ⟨#[]⟩, zeroF, zeroPo, ⟨none, 0, 0⟩⟩
def Ef.at (e : Ef) (v : Sl) : Em := ⟨e.op, e.ref, e.amt, e.ctr, e.zone, e.card, e.flt, e.pool, v⟩
theorem infoLM : (Tryz.prog.info? 32).map (·.size) = some 1 := by kernel_rfl
theorem scal32 : ∃ d, Tryz.prog.underlying 32 = some d ∧ d.isRow = false := ⟨_, Tryz.underlying32, rfl⟩
theorem rfs_one (r : Rf) : r.cells.all (·.oneCell') = true := by simp [Rf.cells, Flt.cells, Value.oneCell']
theorem rfs_info : (Tryz.prog.info? 27).map (·.size) = some 18 := by kernel_rfl
theorem rfs_build_ : ∀ w : World, (Instr.build 27 ([] : List (Nat × Value)).toArray).run Tryz.prog w = .ok (.agg (Rf.cells ⟨(zeroR).kind, (zeroR).n, (zeroR).f⟩)) w := fun _ => by kernel_rfl
def rfs_shape_ {ops rest a w Q dst ty pos af gd} (h : wpList Tryz.prog ops Q ((⟨dst, .build 27 #[], ty, pos, af, gd⟩ : Oper) :: rest) a w) := h
def rfs_bld_ {ops rest} {a : Act} {w Q dst ty pos af gd} hw h :=
 @wpList_bld w ops rest (⟨dst, .build 27 #[], ty, pos, af, gd⟩ : Oper) a Q 27 [] rfl hw [] (by simp only [List.map_cons, List.map_nil]) _ (rfs_build_) h
theorem rfs_build_0 (x0 : Int) : ∀ w : World, (Instr.build 27 ([(0, .int .i64 x0)] : List (Nat × Value)).toArray).run Tryz.prog w = .ok (.agg (Rf.cells ⟨x0, (zeroR).n, (zeroR).f⟩)) w := fun _ => by kernel_rfl
def rfs_shape_0 {ops rest a w Q dst ty pos af gd y0} (h : wpList Tryz.prog ops Q ((⟨dst, .build 27 #[(0, y0)], ty, pos, af, gd⟩ : Oper) :: rest) a w) := h
def rfs_bld_0 {x0 : Int} {ops rest} {a : Act} {w Q dst ty pos af gd y0} hw (h0 : a.eval y0 = .int .i64 x0) h :=
 @wpList_bld w ops rest (⟨dst, .build 27 #[(0, y0)], ty, pos, af, gd⟩ : Oper) a Q 27 [(0, y0)] rfl hw [(0, .int .i64 x0)] (by simp only [List.map_cons, List.map_nil, h0]) _ (rfs_build_0 x0) h
theorem rfs_build_0_1 (x0 : Int) (x1 : Int) : ∀ w : World, (Instr.build 27 ([(0, .int .i64 x0), (1, .int .i64 x1)] : List (Nat × Value)).toArray).run Tryz.prog w = .ok (.agg (Rf.cells ⟨x0, x1, (zeroR).f⟩)) w := fun _ => by kernel_rfl
def rfs_shape_0_1 {ops rest a w Q dst ty pos af gd y0 y1} (h : wpList Tryz.prog ops Q ((⟨dst, .build 27 #[(0, y0), (1, y1)], ty, pos, af, gd⟩ : Oper) :: rest) a w) := h
def rfs_bld_0_1 {x0 : Int} {x1 : Int} {ops rest} {a : Act} {w Q dst ty pos af gd y0 y1} hw (h0 : a.eval y0 = .int .i64 x0) (h1 : a.eval y1 = .int .i64 x1) h :=
 @wpList_bld w ops rest (⟨dst, .build 27 #[(0, y0), (1, y1)], ty, pos, af, gd⟩ : Oper) a Q 27 [(0, y0), (1, y1)] rfl hw [(0, .int .i64 x0), (1, .int .i64 x1)] (by simp only [List.map_cons, List.map_nil, h0, h1]) _ (rfs_build_0_1 x0 x1) h
theorem ams_one (r : Am) : r.cells.all (·.oneCell') = true := by simp [Am.cells, Flt.cells, Value.oneCell']
theorem ams_info : (Tryz.prog.info? 29).map (·.size) = some 19 := by kernel_rfl
theorem ams_build_ : ∀ w : World, (Instr.build 29 ([] : List (Nat × Value)).toArray).run Tryz.prog w = .ok (.agg (Am.cells ⟨(zeroA).k, (zeroA).n, (zeroA).c, (zeroA).f⟩)) w := fun _ => by kernel_rfl
def ams_shape_ {ops rest a w Q dst ty pos af gd} (h : wpList Tryz.prog ops Q ((⟨dst, .build 29 #[], ty, pos, af, gd⟩ : Oper) :: rest) a w) := h
def ams_bld_ {ops rest} {a : Act} {w Q dst ty pos af gd} hw h :=
 @wpList_bld w ops rest (⟨dst, .build 29 #[], ty, pos, af, gd⟩ : Oper) a Q 29 [] rfl hw [] (by simp only [List.map_cons, List.map_nil]) _ (ams_build_) h
theorem ams_build_1 (x1 : Int) : ∀ w : World, (Instr.build 29 ([(1, .int .i64 x1)] : List (Nat × Value)).toArray).run Tryz.prog w = .ok (.agg (Am.cells ⟨(zeroA).k, x1, (zeroA).c, (zeroA).f⟩)) w := fun _ => by kernel_rfl
def ams_shape_1 {ops rest a w Q dst ty pos af gd y1} (h : wpList Tryz.prog ops Q ((⟨dst, .build 29 #[(1, y1)], ty, pos, af, gd⟩ : Oper) :: rest) a w) := h
def ams_bld_1 {x1 : Int} {ops rest} {a : Act} {w Q dst ty pos af gd y1} hw (h1 : a.eval y1 = .int .i64 x1) h :=
 @wpList_bld w ops rest (⟨dst, .build 29 #[(1, y1)], ty, pos, af, gd⟩ : Oper) a Q 29 [(1, y1)] rfl hw [(1, .int .i64 x1)] (by simp only [List.map_cons, List.map_nil, h1]) _ (ams_build_1 x1) h
theorem em_one (r : Em) : r.cells.all (·.oneCell') = true := by simp [Em.cells, Am.cells, Flt.cells, Po.cells, Rf.cells, Value.oneCell']
theorem em_info : (Tryz.prog.info? 34).map (·.size) = some 64 := by kernel_rfl
theorem em_new : ∀ w : World, (zeroValue 34).run Tryz.prog w = .ok (.agg (Em.cells zeroEm)) w := fun _ => by kernel_rfl
theorem em_build_ : ∀ w : World, (Instr.build 34 ([] : List (Nat × Value)).toArray).run Tryz.prog w = .ok (.agg (Em.cells ⟨(zeroEm).op, (zeroEm).ref, (zeroEm).amt, (zeroEm).ctr, (zeroEm).zone, (zeroEm).card, (zeroEm).flt, (zeroEm).pool, (zeroEm).mods⟩)) w := fun _ => by kernel_rfl
def em_shape_ {ops rest a w Q dst ty pos af gd} (h : wpList Tryz.prog ops Q ((⟨dst, .build 34 #[], ty, pos, af, gd⟩ : Oper) :: rest) a w) := h
def em_bld_ {ops rest} {a : Act} {w Q dst ty pos af gd} hw h :=
 @wpList_bld w ops rest (⟨dst, .build 34 #[], ty, pos, af, gd⟩ : Oper) a Q 34 [] rfl hw [] (by simp only [List.map_cons, List.map_nil]) _ (em_build_) h
theorem em_at0 (r : Em) : (Em.cells r)[0]? = some (.int .i64 r.op) := rfl
theorem em_set0 (r : Em) (x : Int) : (Em.cells r).toList.take 0 ++ (Value.cells (.int .i64 x)).toList ++ (Em.cells r).toList.drop (0 + (Value.cells (.int .i64 x)).size) = (Em.cells ⟨x, r.ref, r.amt, r.ctr, r.zone, r.card, r.flt, r.pool, r.mods⟩).toList := rfl
theorem em_part1 (r : Em) : ∀ j v, (Rf.cells r.ref)[j]? = some v → (Em.cells r)[1 + j]? = some v := by
 intro j v h
 have hj : j < 18 := by
  rcases Nat.lt_or_ge j 18 with h1 | h1
  ·exact h1
  ·rw [Array.getElem?_eq_none (by exact h1)] at h; cases h
 match j, hj, h with
 | 0, _, h => exact h
 | 1, _, h => exact h
 | 2, _, h => exact h
 | 3, _, h => exact h
 | 4, _, h => exact h
 | 5, _, h => exact h
 | 6, _, h => exact h
 | 7, _, h => exact h
 | 8, _, h => exact h
 | 9, _, h => exact h
 | 10, _, h => exact h
 | 11, _, h => exact h
 | 12, _, h => exact h
 | 13, _, h => exact h
 | 14, _, h => exact h
 | 15, _, h => exact h
 | 16, _, h => exact h
 | 17, _, h => exact h
theorem em_set1 (r : Em) (x : Rf) : (Em.cells r).toList.take 1 ++ (Value.cells (.agg (Rf.cells x))).toList ++ (Em.cells r).toList.drop (1 + (Value.cells (.agg (Rf.cells x))).size) = (Em.cells ⟨r.op, x, r.amt, r.ctr, r.zone, r.card, r.flt, r.pool, r.mods⟩).toList := rfl
theorem em_part19 (r : Em) : ∀ j v, (Am.cells r.amt)[j]? = some v → (Em.cells r)[19 + j]? = some v := by
 intro j v h
 have hj : j < 19 := by
  rcases Nat.lt_or_ge j 19 with h1 | h1
  ·exact h1
  ·rw [Array.getElem?_eq_none (by exact h1)] at h; cases h
 match j, hj, h with
 | 0, _, h => exact h
 | 1, _, h => exact h
 | 2, _, h => exact h
 | 3, _, h => exact h
 | 4, _, h => exact h
 | 5, _, h => exact h
 | 6, _, h => exact h
 | 7, _, h => exact h
 | 8, _, h => exact h
 | 9, _, h => exact h
 | 10, _, h => exact h
 | 11, _, h => exact h
 | 12, _, h => exact h
 | 13, _, h => exact h
 | 14, _, h => exact h
 | 15, _, h => exact h
 | 16, _, h => exact h
 | 17, _, h => exact h
 | 18, _, h => exact h
theorem em_set19 (r : Em) (x : Am) : (Em.cells r).toList.take 19 ++ (Value.cells (.agg (Am.cells x))).toList ++ (Em.cells r).toList.drop (19 + (Value.cells (.agg (Am.cells x))).size) = (Em.cells ⟨r.op, r.ref, x, r.ctr, r.zone, r.card, r.flt, r.pool, r.mods⟩).toList := rfl
theorem em_at38 (r : Em) : (Em.cells r)[38]? = some (.int .i64 r.ctr) := rfl
theorem em_set38 (r : Em) (x : Int) : (Em.cells r).toList.take 38 ++ (Value.cells (.int .i64 x)).toList ++ (Em.cells r).toList.drop (38 + (Value.cells (.int .i64 x)).size) = (Em.cells ⟨r.op, r.ref, r.amt, x, r.zone, r.card, r.flt, r.pool, r.mods⟩).toList := rfl
theorem em_at39 (r : Em) : (Em.cells r)[39]? = some (.int .i64 r.zone) := rfl
theorem em_set39 (r : Em) (x : Int) : (Em.cells r).toList.take 39 ++ (Value.cells (.int .i64 x)).toList ++ (Em.cells r).toList.drop (39 + (Value.cells (.int .i64 x)).size) = (Em.cells ⟨r.op, r.ref, r.amt, r.ctr, x, r.card, r.flt, r.pool, r.mods⟩).toList := rfl
theorem em_at40 (r : Em) : (Em.cells r)[40]? = some (.string r.card) := rfl
theorem em_set40 (r : Em) (x : ByteArray) : (Em.cells r).toList.take 40 ++ (Value.cells (.string x)).toList ++ (Em.cells r).toList.drop (40 + (Value.cells (.string x)).size) = (Em.cells ⟨r.op, r.ref, r.amt, r.ctr, r.zone, x, r.flt, r.pool, r.mods⟩).toList := rfl
theorem em_part41 (r : Em) : ∀ j v, (Flt.cells r.flt)[j]? = some v → (Em.cells r)[41 + j]? = some v := by
 intro j v h
 have hj : j < 16 := by
  rcases Nat.lt_or_ge j 16 with h1 | h1
  ·exact h1
  ·rw [Array.getElem?_eq_none (by exact h1)] at h; cases h
 match j, hj, h with
 | 0, _, h => exact h
 | 1, _, h => exact h
 | 2, _, h => exact h
 | 3, _, h => exact h
 | 4, _, h => exact h
 | 5, _, h => exact h
 | 6, _, h => exact h
 | 7, _, h => exact h
 | 8, _, h => exact h
 | 9, _, h => exact h
 | 10, _, h => exact h
 | 11, _, h => exact h
 | 12, _, h => exact h
 | 13, _, h => exact h
 | 14, _, h => exact h
 | 15, _, h => exact h
theorem em_set41 (r : Em) (x : Flt) : (Em.cells r).toList.take 41 ++ (Value.cells (.agg (Flt.cells x))).toList ++ (Em.cells r).toList.drop (41 + (Value.cells (.agg (Flt.cells x))).size) = (Em.cells ⟨r.op, r.ref, r.amt, r.ctr, r.zone, r.card, x, r.pool, r.mods⟩).toList := rfl
theorem em_part57 (r : Em) : ∀ j v, (Po.cells r.pool)[j]? = some v → (Em.cells r)[57 + j]? = some v := by
 intro j v h
 have hj : j < 6 := by
  rcases Nat.lt_or_ge j 6 with h1 | h1
  ·exact h1
  ·rw [Array.getElem?_eq_none (by exact h1)] at h; cases h
 match j, hj, h with
 | 0, _, h => exact h
 | 1, _, h => exact h
 | 2, _, h => exact h
 | 3, _, h => exact h
 | 4, _, h => exact h
 | 5, _, h => exact h
theorem em_set57 (r : Em) (x : Po) : (Em.cells r).toList.take 57 ++ (Value.cells (.agg (Po.cells x))).toList ++ (Em.cells r).toList.drop (57 + (Value.cells (.agg (Po.cells x))).size) = (Em.cells ⟨r.op, r.ref, r.amt, r.ctr, r.zone, r.card, r.flt, x, r.mods⟩).toList := rfl
theorem em_at63 (r : Em) : (Em.cells r)[63]? = some (.slice r.mods.a r.mods.n r.mods.c) := rfl
theorem em_set63 (r : Em) (x : Sl) : (Em.cells r).toList.take 63 ++ (Value.cells (.slice x.a x.n x.c)).toList ++ (Em.cells r).toList.drop (63 + (Value.cells (.slice x.a x.n x.c)).size) = (Em.cells ⟨r.op, r.ref, r.amt, r.ctr, r.zone, r.card, r.flt, r.pool, x⟩).toList := rfl
theorem em_put (r x : Em) : (Em.cells r).toList.take 0 ++ (Value.cells (.agg (Em.cells x))).toList ++ (Em.cells r).toList.drop (0 + (Value.cells (.agg (Em.cells x))).size) = (Em.cells x).toList := rfl
def em_st0 {L w0 w rows ops rest o a Q x y} ho hS hw {g} hx {v} hy {r T' rows'} hm h :=
 @wpList_st L w0 w rows ops rest o a Q 3 x y ho hS hw g 0 hx _ hy _ _ T' rows' hm (by exact Nat.le_of_ble_eq_true rfl) (em_set0 r v) infoInt1 (by simp [Value.cells, Value.oneCell']) h
def em_st1 {L w0 w rows ops rest o a Q x y} ho hS hw {g} hx {v} hy {r T' rows'} hm h :=
 @wpList_st L w0 w rows ops rest o a Q 27 x y ho hS hw g 1 hx _ hy _ _ T' rows' hm (by exact Nat.le_of_ble_eq_true rfl) (em_set1 r v) rfs_info (rfs_one v) h
def em_st19 {L w0 w rows ops rest o a Q x y} ho hS hw {g} hx {v} hy {r T' rows'} hm h :=
 @wpList_st L w0 w rows ops rest o a Q 29 x y ho hS hw g 19 hx _ hy _ _ T' rows' hm (by exact Nat.le_of_ble_eq_true rfl) (em_set19 r v) ams_info (ams_one v) h
def em_st38 {L w0 w rows ops rest o a Q x y} ho hS hw {g} hx {v} hy {r T' rows'} hm h :=
 @wpList_st L w0 w rows ops rest o a Q 3 x y ho hS hw g 38 hx _ hy _ _ T' rows' hm (by exact Nat.le_of_ble_eq_true rfl) (em_set38 r v) infoInt1 (by simp [Value.cells, Value.oneCell']) h
def em_st39 {L w0 w rows ops rest o a Q x y} ho hS hw {g} hx {v} hy {r T' rows'} hm h :=
 @wpList_st L w0 w rows ops rest o a Q 3 x y ho hS hw g 39 hx _ hy _ _ T' rows' hm (by exact Nat.le_of_ble_eq_true rfl) (em_set39 r v) infoInt1 (by simp [Value.cells, Value.oneCell']) h
def em_st40 {L w0 w rows ops rest o a Q x y} ho hS hw {g} hx {v} hy {r T' rows'} hm h :=
 @wpList_st L w0 w rows ops rest o a Q 9 x y ho hS hw g 40 hx _ hy _ _ T' rows' hm (by exact Nat.le_of_ble_eq_true rfl) (em_set40 r v) infoStr1 (by simp [Value.cells, Value.oneCell']) h
def em_st41 {L w0 w rows ops rest o a Q x y} ho hS hw {g} hx {v} hy {r T' rows'} hm h :=
 @wpList_st L w0 w rows ops rest o a Q 25 x y ho hS hw g 41 hx _ hy _ _ T' rows' hm (by exact Nat.le_of_ble_eq_true rfl) (em_set41 r v) flt_info (flt_one v) h
def em_st57 {L w0 w rows ops rest o a Q x y} ho hS hw {g} hx {v} hy {r T' rows'} hm h :=
 @wpList_st L w0 w rows ops rest o a Q 31 x y ho hS hw g 57 hx _ hy _ _ T' rows' hm (by exact Nat.le_of_ble_eq_true rfl) (em_set57 r v) pol_info (pol_one v) h
def em_st63 {L w0 w rows ops rest o a Q x y} ho hS hw {g} hx {v1 v2 v3} hy {r T' rows'} hm h :=
 @wpList_st L w0 w rows ops rest o a Q 32 x y ho hS hw g 63 hx _ hy _ _ T' rows' hm (by exact Nat.le_of_ble_eq_true rfl) (em_set63 r ⟨v1, v2, v3⟩) infoLM (by simp [Value.cells, Value.oneCell']) h
def em_stw {L w0 w rows ops rest o a Q x y} ho hS hw {g} hx {v} hy {r T' rows'} hm h :=
 @wpList_st L w0 w rows ops rest o a Q 34 x y ho hS hw g 0 hx _ hy _ _ T' rows' hm (by exact Nat.le_of_ble_eq_true rfl) (em_put r v) em_info (em_one v) h
theorem em_atd10 (r : Em) : (Em.cells r)[10]? = some (.string r.ref.f.sub) := rfl
def em_ldd10 {L w0 w rows ops rest o a Q x} ho hS hw {g} hx {r T'} hm h :=
 @wpList_ld_cell L w0 w rows ops rest o a Q 9 x ho hS hw g 10 hx _ T' hm scal9 _ (em_atd10 r) h
theorem em_atd29 (r : Em) : (Em.cells r)[29]? = some (.string r.amt.f.sub) := rfl
def em_ldd29 {L w0 w rows ops rest o a Q x} ho hS hw {g} hx {r T'} hm h :=
 @wpList_ld_cell L w0 w rows ops rest o a Q 9 x ho hS hw g 29 hx _ T' hm scal9 _ (em_atd29 r) h
theorem em_atd41 (r : Em) : (Em.cells r)[41]? = some (.int .i64 r.flt.zone) := rfl
def em_ldd41 {L w0 w rows ops rest o a Q x} ho hS hw {g} hx {r T'} hm h :=
 @wpList_ld_cell L w0 w rows ops rest o a Q 3 x ho hS hw g 41 hx _ T' hm scal3 _ (em_atd41 r) h
theorem em_atd48 (r : Em) : (Em.cells r)[48]? = some (.string r.flt.sub) := rfl
def em_ldd48 {L w0 w rows ops rest o a Q x} ho hS hw {g} hx {r T'} hm h :=
 @wpList_ld_cell L w0 w rows ops rest o a Q 9 x ho hS hw g 48 hx _ T' hm scal9 _ (em_atd48 r) h
def em_ld0 {L w0 w rows ops rest o a Q x} ho hS hw {g} hx {r T'} hm h :=
 @wpList_ld_cell L w0 w rows ops rest o a Q 3 x ho hS hw g 0 hx _ T' hm scal3 _ (em_at0 r) h
def em_ld1 {L w0 w rows ops rest o a Q x} ho hS hw {g} hx {r T'} hm h :=
 @wpList_ld_part L w0 w rows ops rest o a Q 27 x ho hS hw g 1 hx _ _ T' hm (em_part1 r) _ Tryz.underlying27 rfl rfs_info h
def em_ld19 {L w0 w rows ops rest o a Q x} ho hS hw {g} hx {r T'} hm h :=
 @wpList_ld_part L w0 w rows ops rest o a Q 29 x ho hS hw g 19 hx _ _ T' hm (em_part19 r) _ Tryz.underlying29 rfl ams_info h
def em_ld38 {L w0 w rows ops rest o a Q x} ho hS hw {g} hx {r T'} hm h :=
 @wpList_ld_cell L w0 w rows ops rest o a Q 3 x ho hS hw g 38 hx _ T' hm scal3 _ (em_at38 r) h
def em_ld39 {L w0 w rows ops rest o a Q x} ho hS hw {g} hx {r T'} hm h :=
 @wpList_ld_cell L w0 w rows ops rest o a Q 3 x ho hS hw g 39 hx _ T' hm scal3 _ (em_at39 r) h
def em_ld40 {L w0 w rows ops rest o a Q x} ho hS hw {g} hx {r T'} hm h :=
 @wpList_ld_cell L w0 w rows ops rest o a Q 9 x ho hS hw g 40 hx _ T' hm scal9 _ (em_at40 r) h
def em_ld41 {L w0 w rows ops rest o a Q x} ho hS hw {g} hx {r T'} hm h :=
 @wpList_ld_part L w0 w rows ops rest o a Q 25 x ho hS hw g 41 hx _ _ T' hm (em_part41 r) _ Tryz.underlying25 rfl flt_info h
def em_ld57 {L w0 w rows ops rest o a Q x} ho hS hw {g} hx {r T'} hm h :=
 @wpList_ld_part L w0 w rows ops rest o a Q 31 x ho hS hw g 57 hx _ _ T' hm (em_part57 r) _ Tryz.underlying31 rfl pol_info h
def em_ld63 {L w0 w rows ops rest o a Q x} ho hS hw {g} hx {r T'} hm h :=
 @wpList_ld_cell L w0 w rows ops rest o a Q 32 x ho hS hw g 63 hx _ T' hm scal32 _ (em_at63 r) h
def em_ldw {L w0 w rows ops rest o a Q x} ho hS hw {g} hx {r T'} hm h :=
 @wpList_ld_row L w0 w rows ops rest o a Q 34 x ho hS hw g hx (Em.cells r) T' hm _ Tryz.underlying34 rfl em_info h
def em_rl0 {L w0 rows ops rest o a Q x} ho hw {g} hx {r : Em} {T'} hm hq h :=
 @runS_val L w0 rows ops Q o rest a (.int .i64 r.op) hw hq (fun w hS => @run_ld_cell L w0 w rows o a hS 3 x ho g 0 hx _ T' hm scal3 _ (em_at0 r)) h
def em_rlw {L w0 rows ops rest o a Q x} ho hw {g} hx {r : Em} {T'} hm hq h :=
 @runS_val L w0 rows ops Q o rest a (.agg (Em.cells r)) hw hq (fun w hS => @run_ld_part L w0 w rows o a hS 34 x ho g 0 hx _ _ T' hm (fun j v hj => by simpa using hj) _ Tryz.underlying34 rfl em_info) h
theorem em_res2 {L : World → Prop} {w0 w : World} {rows : List Row} {a : Act} (hS : St L w0 rows w) {fn : Func} {p q : Tmp} (hf : fn.results = #[.cell p 34, .tmp q]) {g : Nat} (hp : a.tmps.getD p undef = .pointer (some ⟨g, 0, none⟩)) {r : Em} {T' : Nat} (hm : RowAt g (Em.cells r) T' rows) {v : Value} (hq : a.tmps.getD q undef = v) (hdef : a.defers = []) {R : Ending → World → Prop} (hR : Below w0.heap.size w0 w → R (.returned (.tuple #[.agg (Em.cells r), v])) w) : bodyPost Tryz.prog fn R .ret a w :=
 bodyPost_ret ((results_row_tmp hf a.tmps w g T' (Em.cells r) (0, 0) _ hp (hS.row hm) Tryz.underlying34 rfl em_info).trans (by rw [hq])) hdef (hR hS.below)
theorem em_res {L : World → Prop} {w0 w : World} {rows : List Row} {a : Act} (hS : St L w0 rows w) {fn : Func} {p : Tmp} (hf : fn.results = #[.cell p 34]) {g : Nat} (hp : a.tmps.getD p undef = .pointer (some ⟨g, 0, none⟩)) {r : Em} {T' : Nat} (hm : RowAt g (Em.cells r) T' rows) (hdef : a.defers = []) {R : Ending → World → Prop} (hR : Below w0.heap.size w0 w → R (.returned (.agg (Em.cells r))) w) : bodyPost Tryz.prog fn R .ret a w :=
 St.result hS hf hp hm Tryz.underlying34 rfl em_info hdef hR
end Go.Proofs.YtdnnbfbhifelkaaGreatDoor
namespace Go.Proofs.YtdnnbfbhifelkaaGreatDoor
attribute [local irreducible] wpList Code.wp Calls
open Go.ChangeShapes Go.WideShapes Go.RowKit
structure Us where
 ref : Bool
 amt : Bool
 ctr : Bool
 zone : Bool
 card : Bool
 flt : Bool
 pool : Bool
 mods : Bool
def Us.cells (u : Us) : Array Value := #[.bool u.ref, .bool u.amt, .bool u.ctr, .bool u.zone, .bool u.card, .bool u.flt, .bool u.pool, .bool u.mods]
def zeroUs : Us := ⟨false, false, false, false, false, false, false, false⟩
def usOf (op : Int) : Us := ⟨uR op, uA op, uK op, uZ op, uC op, uF op, uP op, uM op⟩
theorem us_one (r : Us) : r.cells.all (·.oneCell') = true := by simp [Us.cells, Value.oneCell']
theorem us_info : (Tryz.prog.info? 57).map (·.size) = some 8 := by kernel_rfl
theorem us_new : ∀ w : World, (zeroValue 57).run Tryz.prog w = .ok (.agg (Us.cells zeroUs)) w := fun _ => by kernel_rfl
theorem us_at0 (r : Us) : (Us.cells r)[0]? = some (.bool r.ref) := rfl
theorem us_set0 (r : Us) (x : Bool) : (Us.cells r).toList.take 0 ++ (Value.cells (.bool x)).toList ++ (Us.cells r).toList.drop (0 + (Value.cells (.bool x)).size) = (Us.cells ⟨x, r.amt, r.ctr, r.zone, r.card, r.flt, r.pool, r.mods⟩).toList := rfl
theorem us_at1 (r : Us) : (Us.cells r)[1]? = some (.bool r.amt) := rfl
theorem us_set1 (r : Us) (x : Bool) : (Us.cells r).toList.take 1 ++ (Value.cells (.bool x)).toList ++ (Us.cells r).toList.drop (1 + (Value.cells (.bool x)).size) = (Us.cells ⟨r.ref, x, r.ctr, r.zone, r.card, r.flt, r.pool, r.mods⟩).toList := rfl
theorem us_at2 (r : Us) : (Us.cells r)[2]? = some (.bool r.ctr) := rfl
theorem us_set2 (r : Us) (x : Bool) : (Us.cells r).toList.take 2 ++ (Value.cells (.bool x)).toList ++ (Us.cells r).toList.drop (2 + (Value.cells (.bool x)).size) = (Us.cells ⟨r.ref, r.amt, x, r.zone, r.card, r.flt, r.pool, r.mods⟩).toList := rfl
theorem us_at3 (r : Us) : (Us.cells r)[3]? = some (.bool r.zone) := rfl
theorem us_set3 (r : Us) (x : Bool) : (Us.cells r).toList.take 3 ++ (Value.cells (.bool x)).toList ++ (Us.cells r).toList.drop (3 + (Value.cells (.bool x)).size) = (Us.cells ⟨r.ref, r.amt, r.ctr, x, r.card, r.flt, r.pool, r.mods⟩).toList := rfl
theorem us_at4 (r : Us) : (Us.cells r)[4]? = some (.bool r.card) := rfl
theorem us_set4 (r : Us) (x : Bool) : (Us.cells r).toList.take 4 ++ (Value.cells (.bool x)).toList ++ (Us.cells r).toList.drop (4 + (Value.cells (.bool x)).size) = (Us.cells ⟨r.ref, r.amt, r.ctr, r.zone, x, r.flt, r.pool, r.mods⟩).toList := rfl
theorem us_at5 (r : Us) : (Us.cells r)[5]? = some (.bool r.flt) := rfl
theorem us_set5 (r : Us) (x : Bool) : (Us.cells r).toList.take 5 ++ (Value.cells (.bool x)).toList ++ (Us.cells r).toList.drop (5 + (Value.cells (.bool x)).size) = (Us.cells ⟨r.ref, r.amt, r.ctr, r.zone, r.card, x, r.pool, r.mods⟩).toList := rfl
theorem us_at6 (r : Us) : (Us.cells r)[6]? = some (.bool r.pool) := rfl
theorem us_set6 (r : Us) (x : Bool) : (Us.cells r).toList.take 6 ++ (Value.cells (.bool x)).toList ++ (Us.cells r).toList.drop (6 + (Value.cells (.bool x)).size) = (Us.cells ⟨r.ref, r.amt, r.ctr, r.zone, r.card, r.flt, x, r.mods⟩).toList := rfl
theorem us_at7 (r : Us) : (Us.cells r)[7]? = some (.bool r.mods) := rfl
theorem us_set7 (r : Us) (x : Bool) : (Us.cells r).toList.take 7 ++ (Value.cells (.bool x)).toList ++ (Us.cells r).toList.drop (7 + (Value.cells (.bool x)).size) = (Us.cells ⟨r.ref, r.amt, r.ctr, r.zone, r.card, r.flt, r.pool, x⟩).toList := rfl
theorem us_put (r x : Us) : (Us.cells r).toList.take 0 ++ (Value.cells (.agg (Us.cells x))).toList ++ (Us.cells r).toList.drop (0 + (Value.cells (.agg (Us.cells x))).size) = (Us.cells x).toList := rfl
def us_st0 {L w0 w rows ops rest o a Q x y} ho hS hw {g} hx {v} hy {r T' rows'} hm h :=
 @wpList_st L w0 w rows ops rest o a Q 4 x y ho hS hw g 0 hx _ hy _ _ T' rows' hm (by exact Nat.le_of_ble_eq_true rfl) (us_set0 r v) infoBool1 (by simp [Value.cells, Value.oneCell']) h
def us_st1 {L w0 w rows ops rest o a Q x y} ho hS hw {g} hx {v} hy {r T' rows'} hm h :=
 @wpList_st L w0 w rows ops rest o a Q 4 x y ho hS hw g 1 hx _ hy _ _ T' rows' hm (by exact Nat.le_of_ble_eq_true rfl) (us_set1 r v) infoBool1 (by simp [Value.cells, Value.oneCell']) h
def us_st2 {L w0 w rows ops rest o a Q x y} ho hS hw {g} hx {v} hy {r T' rows'} hm h :=
 @wpList_st L w0 w rows ops rest o a Q 4 x y ho hS hw g 2 hx _ hy _ _ T' rows' hm (by exact Nat.le_of_ble_eq_true rfl) (us_set2 r v) infoBool1 (by simp [Value.cells, Value.oneCell']) h
def us_st3 {L w0 w rows ops rest o a Q x y} ho hS hw {g} hx {v} hy {r T' rows'} hm h :=
 @wpList_st L w0 w rows ops rest o a Q 4 x y ho hS hw g 3 hx _ hy _ _ T' rows' hm (by exact Nat.le_of_ble_eq_true rfl) (us_set3 r v) infoBool1 (by simp [Value.cells, Value.oneCell']) h
def us_st4 {L w0 w rows ops rest o a Q x y} ho hS hw {g} hx {v} hy {r T' rows'} hm h :=
 @wpList_st L w0 w rows ops rest o a Q 4 x y ho hS hw g 4 hx _ hy _ _ T' rows' hm (by exact Nat.le_of_ble_eq_true rfl) (us_set4 r v) infoBool1 (by simp [Value.cells, Value.oneCell']) h
def us_st5 {L w0 w rows ops rest o a Q x y} ho hS hw {g} hx {v} hy {r T' rows'} hm h :=
 @wpList_st L w0 w rows ops rest o a Q 4 x y ho hS hw g 5 hx _ hy _ _ T' rows' hm (by exact Nat.le_of_ble_eq_true rfl) (us_set5 r v) infoBool1 (by simp [Value.cells, Value.oneCell']) h
def us_st6 {L w0 w rows ops rest o a Q x y} ho hS hw {g} hx {v} hy {r T' rows'} hm h :=
 @wpList_st L w0 w rows ops rest o a Q 4 x y ho hS hw g 6 hx _ hy _ _ T' rows' hm (by exact Nat.le_of_ble_eq_true rfl) (us_set6 r v) infoBool1 (by simp [Value.cells, Value.oneCell']) h
def us_st7 {L w0 w rows ops rest o a Q x y} ho hS hw {g} hx {v} hy {r T' rows'} hm h :=
 @wpList_st L w0 w rows ops rest o a Q 4 x y ho hS hw g 7 hx _ hy _ _ T' rows' hm (by exact Nat.le_of_ble_eq_true rfl) (us_set7 r v) infoBool1 (by simp [Value.cells, Value.oneCell']) h
def us_stw {L w0 w rows ops rest o a Q x y} ho hS hw {g} hx {v} hy {r T' rows'} hm h :=
 @wpList_st L w0 w rows ops rest o a Q 57 x y ho hS hw g 0 hx _ hy _ _ T' rows' hm (by exact Nat.le_of_ble_eq_true rfl) (us_put r v) us_info (us_one v) h
def us_ld0 {L w0 w rows ops rest o a Q x} ho hS hw {g} hx {r T'} hm h :=
 @wpList_ld_cell L w0 w rows ops rest o a Q 4 x ho hS hw g 0 hx _ T' hm scal4 _ (us_at0 r) h
def us_ld1 {L w0 w rows ops rest o a Q x} ho hS hw {g} hx {r T'} hm h :=
 @wpList_ld_cell L w0 w rows ops rest o a Q 4 x ho hS hw g 1 hx _ T' hm scal4 _ (us_at1 r) h
def us_ld2 {L w0 w rows ops rest o a Q x} ho hS hw {g} hx {r T'} hm h :=
 @wpList_ld_cell L w0 w rows ops rest o a Q 4 x ho hS hw g 2 hx _ T' hm scal4 _ (us_at2 r) h
def us_ld3 {L w0 w rows ops rest o a Q x} ho hS hw {g} hx {r T'} hm h :=
 @wpList_ld_cell L w0 w rows ops rest o a Q 4 x ho hS hw g 3 hx _ T' hm scal4 _ (us_at3 r) h
def us_ld4 {L w0 w rows ops rest o a Q x} ho hS hw {g} hx {r T'} hm h :=
 @wpList_ld_cell L w0 w rows ops rest o a Q 4 x ho hS hw g 4 hx _ T' hm scal4 _ (us_at4 r) h
def us_ld5 {L w0 w rows ops rest o a Q x} ho hS hw {g} hx {r T'} hm h :=
 @wpList_ld_cell L w0 w rows ops rest o a Q 4 x ho hS hw g 5 hx _ T' hm scal4 _ (us_at5 r) h
def us_ld6 {L w0 w rows ops rest o a Q x} ho hS hw {g} hx {r T'} hm h :=
 @wpList_ld_cell L w0 w rows ops rest o a Q 4 x ho hS hw g 6 hx _ T' hm scal4 _ (us_at6 r) h
def us_ld7 {L w0 w rows ops rest o a Q x} ho hS hw {g} hx {r T'} hm h :=
 @wpList_ld_cell L w0 w rows ops rest o a Q 4 x ho hS hw g 7 hx _ T' hm scal4 _ (us_at7 r) h
def us_ldw {L w0 w rows ops rest o a Q x} ho hS hw {g} hx {r T'} hm h :=
 @wpList_ld_row L w0 w rows ops rest o a Q 57 x ho hS hw g hx (Us.cells r) T' hm _ Tryz.underlying57 rfl us_info h
theorem us_res {L : World → Prop} {w0 w : World} {rows : List Row} {a : Act} (hS : St L w0 rows w) {fn : Func} {p : Tmp} (hf : fn.results = #[.cell p 57]) {g : Nat} (hp : a.tmps.getD p undef = .pointer (some ⟨g, 0, none⟩)) {r : Us} {T' : Nat} (hm : RowAt g (Us.cells r) T' rows) (hdef : a.defers = []) {R : Ending → World → Prop} (hR : Below w0.heap.size w0 w → R (.returned (.agg (Us.cells r))) w) : bodyPost Tryz.prog fn R .ret a w :=
 St.result hS hf hp hm Tryz.underlying57 rfl us_info hdef hR
theorem eOf_any (op : Int) (w : World) (hl : Laid w) : Calls Tryz.prog 28 #[.int .i64 op] w fun e w' => e = .returned (.agg (Us.cells (usOf op))) ∧ Below w.heap.size w w' := by
 have hS := St.start hl keepsL
 go_enter Tryz.func28, Tryz.ntmps28
 go_wp2_with (first | ((first | (with_reducible refine wpList_here ?_) | (with_reducible refine region_here ?_)); (have hq := int_eq (by assumption); subst hq)) | ((with_reducible refine at_alloc ?_); (first | (refine wpList_new 57 rfl hS rfl _ us_new ?_; intro g w hS)); (try simp only [put0, put1, put2, put3, put4])) | ((with_reducible refine at_load ?_); (first | (refine us_ldw rfl hS rfl rfl (by repeat constructor) ?_)); (try simp only [put0, put1, put2, put3, put4])) | ((with_reducible refine at_store ?_); (first | (refine us_stw rfl hS rfl rfl rfl (by repeat constructor) ?_; intro w hS) | (refine us_st0 rfl hS rfl rfl rfl (by repeat constructor) ?_; intro w hS) | (refine us_st1 rfl hS rfl rfl rfl (by repeat constructor) ?_; intro w hS) | (refine us_st2 rfl hS rfl rfl rfl (by repeat constructor) ?_; intro w hS) | (refine us_st3 rfl hS rfl rfl rfl (by repeat constructor) ?_; intro w hS) | (refine us_st4 rfl hS rfl rfl rfl (by repeat constructor) ?_; intro w hS) | (refine us_st5 rfl hS rfl rfl rfl (by repeat constructor) ?_; intro w hS) | (refine us_st6 rfl hS rfl rfl rfl (by repeat constructor) ?_; intro w hS) | (refine us_st7 rfl hS rfl rfl rfl (by repeat constructor) ?_; intro w hS)); (try simp only [put0, put1, put2, put3, put4])))
 all_goals (refine us_res hS rfl rfl (by repeat constructor) rfl (fun hb => ⟨ret_cells (f := Us.cells) ?_, hb⟩))
 all_goals first | rfl | (simp_all [usOf, zeroUs, uR, uA, uK, uZ, uC, uF, uP, uM])
end Go.Proofs.YtdnnbfbhifelkaaGreatDoor
namespace Go.Proofs.YtdnnbfbhifelkaaGreatDoor
open Go.ChangeShapes Go.WideShapes Go.RowKit
theorem RowAt.app {g : Nat} {cs : Array Value} {T : Nat} {rows : List Row} (h : RowAt g cs T rows) (X : List Row) : RowAt g cs T (rows ++ X) := by
 induction h with
 | head => exact .head
 | tail _ ih => exact .tail ih
section
variable {P : Program} {ops : Array Oper} {Q : Exit → Act → World → Prop} {md : Region.Mode}
def WF (P : Program) (md : Region.Mode) (ops : Array Oper) (Q : Exit → Act → World → Prop) (F : Array Bool → Act → World → Prop) (q : Nat) : Nat → Array Bool → Act → World → Prop
 | 0, listed, a, w => Region.ready md ops listed = [] ∧ Q .normal a w
 | k + 1, listed, a, w => (Region.ready md ops listed = [] → Q .normal a w) ∧ ∀ i ∈ Region.ready md ops listed, wpOp P ops Q i (fun a' w' =>
     ((listed.setIfInBounds i true).getD q true = true → WF P md ops Q F q k (listed.setIfInBounds i true) a' w') ∧
     ((listed.setIfInBounds i true).getD q true = false → F (listed.setIfInBounds i true) a' w' ∧ ∀ w'', F (listed.setIfInBounds i true) a' w'' → WF P md ops Q F q k (listed.setIfInBounds i true) a' w'')) a w
variable {F : Array Bool → Act → World → Prop} {q : Nat}
theorem wpAny_of_WF : ∀ (k : Nat) (listed : Array Bool) (a : Act) (w : World), WF P md ops Q F q k listed a w → wpAny P md ops Q k listed a w
 | 0, _, _, w, h => h
 | k + 1, listed, _, w, h => ⟨h.1, fun i hi => wpOp_mono (fun a' w' h' => by
     cases hq : (listed.setIfInBounds i true).getD q true with
     | true => exact wpAny_of_WF k _ a' w' (h'.1 hq)
     | false => exact wpAny_of_WF k _ a' w' ((h'.2 hq).2 w' (h'.2 hq).1)) (h.2 i hi)⟩
def YPure (P : Program) (ops : Array Oper) (o : Oper) (v : Value) (a : Act) : Prop := (Region.wanted o (yielded ops a.tmps) = true ∧ ∀ w, (execOp a.eval o).run P w = .ok (.value v) w) ∨ (Region.wanted o (yielded ops a.tmps) = false ∧ v = undef)
theorem YPure.y {o : Oper} {v : Value} {a : Act} (h : YPure P ops o v a) : YSt P ops (fun _ => True) o v a := h.imp (fun h => ⟨h.1, fun w _ => by rw [h.2 w]; exact ⟨rfl, trivial⟩⟩) id
theorem YPure.op {i : Nat} {o : Oper} {v : Value} {a : Act} (hi : ops[i]? = some o) (hy : YPure P ops o v a) {K : Act → World → Prop} {w : World} (h : K (a.put o.dst v) w) : wpOp P ops Q i K a w := by
 unfold Go.wpOp
 rw [hi]
 simp only
 rcases hy with hy | ⟨h1, rfl⟩
 ·rw [if_pos hy.1]
  left
  unfold Oper.wp
  rw [hy.2 w]
  exact h
 ·rw [if_neg (by rw [h1]; decide)]; exact h
theorem YPure.same {o : Oper} {v : Value} {a a' : Act} (hy : YPure P ops o v a) (he : execOp a'.eval o = execOp a.eval o) (hw : Region.wanted o (yielded ops a'.tmps) = Region.wanted o (yielded ops a.tmps)) : YPure P ops o v a' :=
 hy.imp (fun h => ⟨hw.trans h.1, fun w => by rw [he]; exact h.2 w⟩) (fun h => ⟨hw.trans h.1, h.2⟩)
theorem op_aheadG {j : Nat} {oi oj : Oper} {v : Value} (hj : ops[j]? = some oj) (hap : oi.apart ops oj = true) (hsi : ∀ cs b, oi.op ≠ .select cs b) (hsj : ∀ cs b, oj.op ≠ .select cs b)
 (hQ : ∀ c a w, Q (.panic c) (a.put oi.dst v) w → Q (.panic c) a w) (Y : Act → Prop) (hsame : ∀ a a', execOp a'.eval oi = execOp a.eval oi → Region.wanted oi (yielded ops a'.tmps) = Region.wanted oi (yielded ops a.tmps) → Y a → Y a')
 {S : World → Prop} {K : Act → World → Prop} {a : Act} {w : World} (hy : YSt P ops S oi v a) (hY : Y a) (h : wpOp P ops Q j K (a.put oi.dst v) w) :
 wpOp P ops Q j (fun a' w' => Y a' ∧ K (a'.put oi.dst v) w') a w := by
 obtain ⟨p1, p2, p3⟩ := Oper.apart_spec hap
 have h2 := op_ahead hj hap hsi hsj hQ hy h
 have kp : ∀ u, Y (a.put oj.dst u) := fun u => hsame _ _ (execOp_put oi hsi a oj.dst u p3) (wanted_put oi a oj.dst u p3) hY
 have kd : ∀ (d : Deferred) u, Y (({ a with defers := d :: a.defers } : Act).put oj.dst u) := fun d u =>
  hsame _ _ (execOp_put oi hsi _ oj.dst u p3) (wanted_put oi _ oj.dst u p3) (hsame a ({ a with defers := d :: a.defers } : Act) rfl rfl hY)
 clear h
 unfold wpOp at h2 ⊢
 rw [hj] at h2 ⊢
 simp only at h2 ⊢
 by_cases hw : Region.wanted oj (yielded ops a.tmps) = true
 ·rw [if_pos hw] at h2 ⊢
  rcases h2 with h | h
  ·left
   unfold Oper.wp at h ⊢
   revert h
   generalize (execOp a.eval oj).run P w = r
   intro h
   match r, h with
   | .ok (.value u) w', h => exact ⟨kp u, h.2⟩
   | .ok .skip w', h => exact ⟨kp undef, h.2⟩
   | .ok (.defer d) w', h => exact ⟨kd d undef, h.2⟩
   | .ok (.enter f args) w', h =>
     refine Calls.mono (show Calls P f args w' _ from h) fun e w'' he => ?_
     cases e with
     | returned u => exact ⟨kp u, he.2⟩
     | panicked c => exact he
     | outgrown => exact he
   | .ok (.row row args) w', h => exact Rows.mono (show Rows P row args w' _ from h) fun u w'' he => ⟨kp u, he.2⟩
   | .halt (.panic u) w', h => exact h
  ·exact .inr h
 ·rw [if_neg hw] at h2 ⊢
  exact ⟨kp undef, h2.2⟩
end
section
variable {P : Program} {ops : Array Oper} {Q : Exit → Act → World → Prop} {md : Region.Mode} {F : Array Bool → Act → World → Prop} {q : Nat}
def Blind (F : Array Bool → Act → World → Prop) (q : Nat) (i : Nat) (d : Option Tmp) (v : Value) : Prop := ∀ listed a w, F (listed.setIfInBounds i true) (a.put d v) w ↔ F listed a w
theorem ready_wait {i : Nat} {oj : Oper} {listed : Array Bool} (hr : i ∈ Region.ready md ops listed) (haft : ∀ x ∈ oj.after, Region.binds md x = true → listed.getD x.on false = true) : ∀ x ∈ oj.after, Region.binds md x = true → x.on ≠ i := fun x hx hb hq => by
 have h1 := haft x hx hb
 have h0 := (mem_ready.1 hr).1
 rw [hq] at h1
 rcases Nat.lt_or_ge i listed.size with h' | h'
 ·simp [h'] at h0 h1; rw [h0] at h1; cases h1
 ·simp [Array.getElem?_eq_none h'] at h1
theorem take_pure {i : Nat} {oi : Oper} {v : Value} (hi : ops[i]? = some oi) (hiq : i ≠ q) (hsel : ∀ (j : Nat) (o : Oper) cs b, ops[j]? = some o → o.op ≠ .select cs b) (hQ : ∀ c a w, Q (.panic c) (a.put oi.dst v) w → Q (.panic c) a w) (hF : Blind F q i oi.dst v) :
 ∀ (k : Nat) (listed : Array Bool) (a : Act) (w : World),
   (∀ j oj, ops[j]? = some oj → j ≠ i → listed.getD j true = false → (∀ e ∈ oj.after, Region.binds md e = true → e.on ≠ i) → oi.apart ops oj = true) →
   i ∈ Region.ready md ops listed → YPure P ops oi v a → (listed.getD q true = false → F listed a w) →
   WF P md ops Q F q k (listed.setIfInBounds i true) (a.put oi.dst v) w → (listed.getD q true = false → ∀ w', F (listed.setIfInBounds i true) (a.put oi.dst v) w' → WF P md ops Q F q k (listed.setIfInBounds i true) (a.put oi.dst v) w') → WF P md ops Q F q (k + 1) listed a w := by
 intro k
 have hqs : ∀ listed : Array Bool, (listed.setIfInBounds i true).getD q true = listed.getD q true := fun listed => getD_set_ne true hiq
 induction k with
 | zero =>
   intro listed a w _ hr hy hf H H2
   refine ⟨fun h => (by rw [h] at hr; cases hr), fun j hj => ?_⟩
   by_cases e : j = i
   ·subst e
    exact hy.op hi ⟨fun _ => H, fun hq => ⟨(hF listed a w).2 (hf (by rw [← hqs]; exact hq)), H2 (by rw [← hqs]; exact hq)⟩⟩
   ·have := ready_mono hj e
    rw [H.1] at this
    cases this
 | succ k ih =>
   intro listed a w hfree hr hy hf H H2
   refine ⟨fun h => (by rw [h] at hr; cases hr), fun j hj => ?_⟩
   by_cases e : j = i
   ·subst e
    exact hy.op hi ⟨fun _ => H, fun hq => ⟨(hF listed a w).2 (hf (by rw [← hqs]; exact hq)), H2 (by rw [← hqs]; exact hq)⟩⟩
   ·obtain ⟨hjn, oj, hoj, haft⟩ := mem_ready.1 hj
    have hno := ready_wait hr haft
    have h2 := op_aheadG hoj (hfree j oj hoj e hjn hno) (fun cs b => hsel i oi cs b hi) (fun cs b => hsel j oj cs b hoj) hQ (fun a => YPure P ops oi v a) (fun _ _ h1 h2 h => h.same h1 h2) hy.y hy (H.2 j (ready_mono hj e))
    have hfree' : ∀ k' ok, ops[k']? = some ok → k' ≠ i → (listed.setIfInBounds j true).getD k' true = false → (∀ e ∈ ok.after, Region.binds md e = true → e.on ≠ i) → oi.apart ops ok = true := by
     intro k' ok hk hki hun hn
     refine hfree k' ok hk hki ?_ hn
     by_cases hjk : j = k'
     ·subst hjk; exact hjn
     ·rw [getD_set_ne true hjk] at hun; exact hun
    have hcm : (listed.setIfInBounds i true).setIfInBounds j true = (listed.setIfInBounds j true).setIfInBounds i true := Array.setIfInBounds_comm _ _ (Ne.symm e)
    refine wpOp_mono (fun a' w' h3 => ?_) h2
    obtain ⟨hy', h4, h5⟩ := h3
    rw [hcm] at h4 h5
    have hqj : ((listed.setIfInBounds j true).setIfInBounds i true).getD q true = (listed.setIfInBounds j true).getD q true := hqs _
    rw [hqj] at h4 h5
    refine ⟨fun hq => ?_, fun hq => ?_⟩
    ·exact ih _ a' w' hfree' (ready_mono hr (Ne.symm e)) hy' (fun h => by rw [hq] at h; cases h) (h4 hq) (fun h => by rw [hq] at h; cases h)
    ·obtain ⟨hf', hw'⟩ := h5 hq
     have hb := hF (listed.setIfInBounds j true) a'
     refine ⟨(hb w').1 hf', fun w'' hf'' => ?_⟩
     exact ih _ a' w'' hfree' (ready_mono hr (Ne.symm e)) hy' (fun _ => hf'') (hw' w'' ((hb w'').2 hf'')) (fun _ w3 h3 => hw' w3 h3)
def Closed (md : Region.Mode) (ops : Array Oper) (listed : Array Bool) : Prop := ∀ j o, listed.getD j false = true → ops[j]? = some o → ∀ e ∈ o.after, Region.binds md e = true → listed.getD e.on false = true
theorem Closed.set {listed : Array Bool} (h : Closed md ops listed) {j : Nat} (hj : j ∈ Region.ready md ops listed) : Closed md ops (listed.setIfInBounds j true) := by
 intro k o hk ho e he hb
 have hmono : ∀ x, listed.getD x false = true → (listed.setIfInBounds j true).getD x false = true := fun x hx => getD_set_true hx
 by_cases hkj : k = j
 ·subst hkj
  obtain ⟨_, o', ho', hall⟩ := mem_ready.1 hj
  rw [ho] at ho'; cases ho'
  exact hmono _ (hall e he hb)
 ·have : listed.getD k false = true := by rwa [getD_set_ne false (Ne.symm hkj)] at hk
  exact hmono _ (h k o this ho e he hb)
theorem take_early {i : Nat} {oi : Oper} {v : Value} (hi : ops[i]? = some oi) (hiq : i ≠ q) (hsel : ∀ (j : Nat) (o : Oper) cs b, ops[j]? = some o → o.op ≠ .select cs b) (hQ : ∀ c a w, Q (.panic c) (a.put oi.dst v) w → Q (.panic c) a w) (hF : Blind F q i oi.dst v)
 (hwait : ∀ listed : Array Bool, Closed md ops listed → listed.getD i true = false → q ∉ Region.ready md ops listed) {ι : Type} (S : ι → World → Prop) (hS : ∀ listed a w, listed.getD q true = false → F listed a w → ∃ x, S x w ∧ ∀ w', S x w' → F listed a w') :
 ∀ (k : Nat) (listed : Array Bool) (a : Act), Closed md ops listed →
   (∀ j oj, ops[j]? = some oj → j ≠ i → listed.getD j true = false → (∀ e ∈ oj.after, Region.binds md e = true → e.on ≠ i) → oi.apart ops oj = true) →
   i ∈ Region.ready md ops listed → (∀ x, YSt P ops (S x) oi v a) → listed.getD q true = false →
   (∀ w', F (listed.setIfInBounds i true) (a.put oi.dst v) w' → WF P md ops Q F q k (listed.setIfInBounds i true) (a.put oi.dst v) w') → ∀ w, F listed a w → WF P md ops Q F q (k + 1) listed a w := by
 intro k
 have hqs : ∀ listed : Array Bool, (listed.setIfInBounds i true).getD q true = listed.getD q true := fun listed => getD_set_ne true hiq
 induction k with
 | zero =>
   intro listed a _ _ hr hy hq0 H w hf
   refine ⟨fun h => (by rw [h] at hr; cases hr), fun j hj => ?_⟩
   by_cases e : j = i
   ·subst e
    obtain ⟨x, hx, hk⟩ := hS listed a w hq0 hf
    refine (hy x).op hi hx fun w' hs' => ⟨fun hq => (by rw [hqs, hq0] at hq; cases hq), fun _ => ⟨(hF listed a w').2 (hk w' hs'), H⟩⟩
   ·have := ready_mono hj e
    rw [(H w ((hF listed a w).2 hf)).1] at this
    cases this
 | succ k ih =>
   intro listed a hcl hfree hr hy hq0 H w hf
   refine ⟨fun h => (by rw [h] at hr; cases hr), fun j hj => ?_⟩
   by_cases e : j = i
   ·subst e
    obtain ⟨x, hx, hk⟩ := hS listed a w hq0 hf
    refine (hy x).op hi hx fun w' hs' => ⟨fun hq => (by rw [hqs, hq0] at hq; cases hq), fun _ => ⟨(hF listed a w').2 (hk w' hs'), H⟩⟩
   ·obtain ⟨hjn, oj, hoj, haft⟩ := mem_ready.1 hj
    have hno := ready_wait hr haft
    have hjq : j ≠ q := fun h => hwait listed hcl (mem_ready.1 hr).1 (h ▸ hj)
    obtain ⟨x, hx, hk⟩ := hS listed a w hq0 hf
    have hw1 := (H w ((hF listed a w).2 hf)).2 j (ready_mono hj e)
    have h2 := op_aheadG hoj (hfree j oj hoj e hjn hno) (fun cs b => hsel i oi cs b hi) (fun cs b => hsel j oj cs b hoj) hQ (fun a => ∀ x, YSt P ops (S x) oi v a) (fun _ _ h1 h2 h x => (h x).same h1 h2) (hy x) hy hw1
    have hfree' : ∀ k' ok, ops[k']? = some ok → k' ≠ i → (listed.setIfInBounds j true).getD k' true = false → (∀ e ∈ ok.after, Region.binds md e = true → e.on ≠ i) → oi.apart ops ok = true := by
     intro k' ok hk hki hun hn
     refine hfree k' ok hk hki ?_ hn
     by_cases hjk : j = k'
     ·subst hjk; exact hjn
     ·rw [getD_set_ne true hjk] at hun; exact hun
    have hcm : (listed.setIfInBounds i true).setIfInBounds j true = (listed.setIfInBounds j true).setIfInBounds i true := Array.setIfInBounds_comm _ _ (Ne.symm e)
    refine wpOp_mono (fun a' w' h3 => ?_) h2
    obtain ⟨hy', h4, h5⟩ := h3
    rw [hcm] at h4 h5
    have hqj : (listed.setIfInBounds j true).getD q true = false := by rw [getD_set_ne true hjq]; exact hq0
    have hqi : ((listed.setIfInBounds j true).setIfInBounds i true).getD q true = false := (hqs _).trans hqj
    obtain ⟨hf', hw'⟩ := h5 hqi
    refine ⟨fun hq => (by rw [hqj] at hq; cases hq), fun _ => ⟨(hF _ a' w').1 hf', ?_⟩⟩
    exact ih _ a' (hcl.set hj) hfree' (ready_mono hr (Ne.symm e)) hy' hqj hw'

def waits (ops : Array Oper) (q i : Nat) : Bool := match ops[q]? with
 | some o => o.after.any fun e => Region.binds .any e && e.on == i
 | none => false
def reach (ops : Array Oper) : Nat → Nat → Nat → Bool
 | 0, j, i => waits ops j i
 | k + 1, j, i => waits ops j i || (match ops[j]? with
   | some o => o.after.any fun e => Region.binds .any e && reach ops k e.on i
   | none => false)
theorem waits_listed {j i : Nat} (h : waits ops j i = true) {listed : Array Bool} (hall : ∀ o, ops[j]? = some o → ∀ e ∈ o.after, Region.binds .any e = true → listed.getD e.on false = true) : listed.getD i false = true := by
 unfold waits at h
 cases ho : ops[j]? with
 | none => rw [ho] at h; cases h
 | some o =>
   rw [ho] at h
   simp only at h
   obtain ⟨k, hk, he⟩ := Array.any_eq_true.1 h
   simp only [Bool.and_eq_true, beq_iff_eq] at he
   rw [← he.2]
   exact hall o ho _ (Array.getElem_mem hk) he.1
theorem reach_all {listed : Array Bool} (hc : Closed .any ops listed) {i : Nat} : ∀ (k j : Nat), reach ops k j i = true → (∀ o, ops[j]? = some o → ∀ e ∈ o.after, Region.binds .any e = true → listed.getD e.on false = true) → listed.getD i false = true
 | 0, j, h, hall => waits_listed h hall
 | k + 1, j, h, hall => by
   unfold reach at h
   rcases Bool.or_eq_true_iff.1 h with h | h
   ·exact waits_listed h hall
   ·cases ho : ops[j]? with
    | none => rw [ho] at h; cases h
    | some o =>
      rw [ho] at h
      simp only at h
      obtain ⟨x, hx, he⟩ := Array.any_eq_true.1 h
      simp only [Bool.and_eq_true] at he
      have hl := hall o ho _ (Array.getElem_mem hx) he.1
      exact reach_all hc k _ he.2 (fun o' ho' e' he' hb' => hc _ o' hl ho' e' he' hb')
theorem reach_spec {k i : Nat} (h : reach ops k q i = true) (listed : Array Bool) (hc : Closed .any ops listed) (hl : listed.getD i true = false) : q ∉ Region.ready .any ops listed := by
 intro hr
 obtain ⟨_, o, ho, hall⟩ := mem_ready.1 hr
 have h2 := reach_all hc k q h (fun o' ho' e he hb => by rw [ho] at ho'; cases ho'; exact hall e he hb)
 rcases Nat.lt_or_ge i listed.size with h' | h'
 ·simp [h'] at h2 hl; rw [hl] at h2; cases h2
 ·simp [Array.getElem?_eq_none h'] at h2
inductive RunX (P : Program) (ops : Array Oper) (Q : Exit → Act → World → Prop) {ι : Type} (S : ι → World → Prop) (q : Nat) (E : Act → Prop) : Nat → List Oper → Act → Prop
 | nil {i a} : E a → RunX P ops Q S q E i [] a
 | pure {i o rest a} (v : Value) : (∀ c a w, Q (.panic c) (a.put o.dst v) w → Q (.panic c) a w) → YPure P ops o v a → RunX P ops Q S q E (i + 1) rest (a.put o.dst v) → RunX P ops Q S q E i (o :: rest) a
 | read {i o rest a} (v : Value) : (∀ c a w, Q (.panic c) (a.put o.dst v) w → Q (.panic c) a w) → reach ops 6 q i = true → (∀ x, YSt P ops (S x) o v a) → RunX P ops Q S q E (i + 1) rest (a.put o.dst v) → RunX P ops Q S q E i (o :: rest) a
def orderlyX (ops : Array Oper) (p q : Nat) (dp : Option Tmp) : Nat → Nat → Array Bool → Bool
 | 0, _, _ => true
 | k + 1, i, listed => i != p && (i != q && ((match ops[i]? with | some o => o.dst != dp || dp == none | none => false) && (Region.free .any ops listed i && ((Region.ready .any ops listed).contains i && orderlyX ops p q dp k (i + 1) (listed.setIfInBounds i true)))))
def setN : Nat → Nat → Array Bool → Array Bool
 | 0, _, listed => listed
 | k + 1, i, listed => setN k (i + 1) (listed.setIfInBounds i true)
theorem runX_WF {ι : Type} {S : ι → World → Prop} {E : Act → Prop} {p : Nat} {dp : Option Tmp} {F : Array Bool → Act → World → Prop} (hs : Region.noSelect ops = true) (hS : ∀ listed a w, listed.getD q true = false → F listed a w → ∃ x, S x w ∧ ∀ w', S x w' → F listed a w')
 (hB : ∀ i d v, i ≠ p → i ≠ q → (d ≠ dp ∨ dp = none) → Blind F q i d v) (k0 : Nat) : ∀ (l : List Oper) (i : Nat) (listed : Array Bool) (a : Act), Closed .any ops listed → listed.getD q true = false → (∀ j, j < l.length → l[j]? = ops[i + j]?) → orderlyX ops p q dp l.length i listed = true →
  (∀ a, E a → ∀ w, F (setN l.length i listed) a w → WF P .any ops Q F q k0 (setN l.length i listed) a w) → RunX P ops Q S q E i l a → ∀ w, F listed a w → WF P .any ops Q F q (k0 + l.length) listed a w
 | [], i, listed, a, _, _, _, _, hE, h => by
   cases h with
   | nil h => exact hE a h
 | o :: rest, i, listed, a, hcl, hq0, hl, ho, hE, h => by
   simp only [List.length_cons, orderlyX, Bool.and_eq_true, bne_iff_ne, ne_eq] at ho
   obtain ⟨hp, hq, hd, hf, hr, ho⟩ := ho
   have hi : ops[i]? = some o := by simpa using (hl 0 (by simp)).symm
   rw [hi] at hd
   simp only [Bool.or_eq_true, bne_iff_ne, ne_eq, beq_iff_eq] at hd
   have hl' : ∀ j, j < rest.length → rest[j]? = ops[i + 1 + j]? := fun j hj => by have := hl (j + 1) (by simp; omega); simpa [Nat.add_assoc, Nat.add_comm 1 j] using this
   have hq1 : (listed.setIfInBounds i true).getD q true = false := by rw [getD_set_ne true hq]; exact hq0
   have hcl1 : Closed .any ops (listed.setIfInBounds i true) := hcl.set (by simpa using hr)
   cases h with
   | pure v hQ hy h =>
     have ih := runX_WF hs hS hB k0 rest (i + 1) (listed.setIfInBounds i true) (a.put o.dst v) hcl1 hq1 hl' ho hE h
     intro w hw
     exact take_pure hi hq (Region.noSelect_spec hs) hQ (hB i o.dst v hp hq hd) (k0 + rest.length) listed a w (Region.free_spec hi hf) (by simpa using hr) hy (fun _ => hw) (ih w ((hB i o.dst v hp hq hd listed a w).2 hw)) (fun _ w' hw' => ih w' hw')
   | read v hQ hwt hy h =>
     have ih := runX_WF hs hS hB k0 rest (i + 1) (listed.setIfInBounds i true) (a.put o.dst v) hcl1 hq1 hl' ho hE h
     exact take_early hi hq (Region.noSelect_spec hs) hQ (hB i o.dst v hp hq hd) (fun listed hc hl => reach_spec hwt listed hc hl) S hS (k0 + rest.length) listed a hcl (Region.free_spec hi hf) (by simpa using hr) hy hq0 ih
theorem closed_none (md : Region.Mode) (n : Nat) : Closed md ops (Array.replicate n false) := fun j o h => by
 rcases Nat.lt_or_ge j n with h' | h' <;> simp [h'] at h
def chainOk (ops : Array Oper) : Nat → Nat → Array Bool → Bool
 | 0, _, listed => (Region.ready .any ops listed).isEmpty
 | k + 1, i, listed => Region.ready .any ops listed == [i] && (decide (i < listed.size) && chainOk ops k (i + 1) (listed.setIfInBounds i true))
theorem tail_WF {F : Array Bool → Act → World → Prop} : ∀ (l : List Oper) (i : Nat) (listed : Array Bool) (a : Act) (w : World), (∀ j, l[j]? = ops[i + j]?) → (i = q ∨ listed.getD q true = true) → chainOk ops l.length i listed = true → wpList P ops Q l a w → WF P .any ops Q F q l.length listed a w
 | [], i, listed, a, w, _, _, hc, h => by
   refine ⟨by simpa [chainOk] using hc, ?_⟩
   unfold wpList at h; exact h
 | o :: rest, i, listed, a, w, hl, hq, hc, h => by
   simp only [List.length_cons, chainOk, Bool.and_eq_true, beq_iff_eq, decide_eq_true_eq] at hc
   obtain ⟨h1, hsz, h2⟩ := hc
   have hi : ops[i]? = some o := by simpa using (hl 0).symm
   have hl' : ∀ j, rest[j]? = ops[i + 1 + j]? := fun j => by have := hl (j + 1); simpa [Nat.add_assoc, Nat.add_comm 1 j] using this
   have hq1 : (listed.setIfInBounds i true).getD q true = true := by
    rcases hq with rfl | hq
    ·simp [hsz]
    ·by_cases e : i = q
     ·subst e; simp [hsz]
     ·rw [getD_set_ne true e]; exact hq
   refine ⟨fun e => (by rw [h1] at e; cases e), fun j hj => ?_⟩
   rw [h1] at hj
   obtain rfl : j = i := by simpa using hj
   have h3 : wpOp P ops Q j (fun a' w' => wpList P ops Q rest a' w') a w := by
    unfold wpOp
    rw [hi]
    simp only
    unfold wpList at h
    exact h
   exact wpOp_mono (fun a' w' h' => ⟨fun _ => tail_WF rest (j + 1) _ a' w' hl' (.inr hq1) h2 h', fun e => by rw [hq1] at e; cases e⟩) h3
end
section
variable {L : World → Prop} {w0 w : World} {rows : List Row} {Q : Exit → Act → World → Prop} {a : Act}
def SX (L : World → Prop) (w0 : World) (rows : List Row) (e : Option (Array Value × Nat)) : Option Nat → World → Prop
 | none => St L w0 rows
 | some g => match e with
   | some (z, T) => St L w0 (rows ++ [(g, z, T)])
   | none => St L w0 rows
theorem SX.get {e : Option (Array Value × Nat)} {x : Option Nat} {w : World} (h : SX L w0 rows e x w) : ∃ X, St L w0 (rows ++ X) w ∧ ∀ w', St L w0 (rows ++ X) w' → SX L w0 rows e x w' := by
 cases x with
 | none => exact ⟨[], by simpa using (show St L w0 rows w from h), fun w' h' => by rw [List.append_nil] at h'; exact h'⟩
 | some g =>
   cases e with
   | none => exact ⟨[], by simpa using (show St L w0 rows w from h), fun w' h' => by rw [List.append_nil] at h'; exact h'⟩
   | some e => exact ⟨[(g, e.1, e.2)], h, fun w' h' => h'⟩
theorem wp_region_Xn {id : Nat} {l : List Oper} (n : Nat) (hS : St L w0 rows w) (hs : Region.noSelect l.toArray = true) (ho : orderlyX l.toArray n n none (l.take n).length 0 (Array.replicate l.length false) = true)
 (hq : (setN (l.take n).length 0 (Array.replicate l.length false)).getD n true = false) (hc : chainOk l.toArray (l.drop n).length n (setN (l.take n).length 0 (Array.replicate l.length false)) = true) (hq0 : (Array.replicate l.length false).getD n true = false)
 (h : RunX Tryz.prog l.toArray Q (SX L w0 rows none) n (fun a => ∀ w, St L w0 rows w → wpList Tryz.prog l.toArray Q (l.drop n) a w) 0 (l.take n) a) : (Code.region id l.toArray true).wp Tryz.prog Q a w := by
 have hlen : (l.drop n).length + (l.take n).length = l.length := by simp; omega
 have h1 := runX_WF (p := n) (dp := none) (F := fun listed _ w => if listed.getD n true = true then True else St L w0 rows w) hs
  (fun listed a w hq hf => ⟨none, show St L w0 rows w by simpa only [hq, Bool.false_eq_true, if_false] using hf, fun w' (hw' : St L w0 rows w') => by simpa only [hq, Bool.false_eq_true, if_false] using hw'⟩)
  (fun i d v hp hq _ listed a w => by simp only [getD_set_ne true hq]) (l.drop n).length (l.take n) 0 (Array.replicate l.length false) a (closed_none _ _) hq0
  (fun j hj => by rw [Nat.zero_add, List.getElem?_take, if_pos (by simp at hj; omega)]; simp) ho
  (fun a he w hf => tail_WF (l.drop n) n _ a w (fun j => by simp [List.getElem?_drop]) (.inl rfl) hc (he w (by simpa only [hq, Bool.false_eq_true, if_false] using hf))) h
 refine wp_region_any Tryz.follows_mixed ?_
 rw [hlen] at h1
 have := wpAny_of_WF _ _ _ _ (h1 w.drew (by simpa only [hq0, Bool.false_eq_true, if_false] using hS.drew))
 simpa using this
theorem wp_region_X1 {id : Nat} {l : List Oper} (n : Nat) (hn : l.length = n + 1) (hS : St L w0 rows w) (hs : Region.noSelect l.toArray = true) (ho : orderlyX l.toArray n n none (l.take n).length 0 (Array.replicate l.length false) = true)
 (hq : (setN (l.take n).length 0 (Array.replicate l.length false)).getD n true = false) (hc : chainOk l.toArray (l.drop n).length n (setN (l.take n).length 0 (Array.replicate l.length false)) = true) (hq0 : (Array.replicate l.length false).getD n true = false)
 (h : RunX Tryz.prog l.toArray Q (SX L w0 rows none) n (fun a => ∀ w, St L w0 rows w → wpList Tryz.prog l.toArray Q (l.drop n) a w) 0 (l.take n) a) : (Code.region id l.toArray true).wp Tryz.prog Q a w := wp_region_Xn n hS hs ho hq hc hq0 h
variable {ops : Array Oper} {e : Option (Array Value × Nat)} {q : Nat} {E : Act → Prop} {o : Oper} {rest : List Oper} {i : Nat}
theorem runX_val {v : Value} (hw : Region.wanted o (yielded ops a.tmps) = true) (hq : ∀ c a w, Q (.panic c) (a.put o.dst v) w → Q (.panic c) a w) (hwt : reach ops 6 q i = true) (hy : ∀ X w, St L w0 (rows ++ X) w → (execOp a.eval o).run Tryz.prog w = .ok (.value v) w)
 (h : RunX Tryz.prog ops Q (SX L w0 rows e) q E (i + 1) rest (a.put o.dst v)) : RunX Tryz.prog ops Q (SX L w0 rows e) q E i (o :: rest) a :=
 .read v hq hwt (fun x => .inl ⟨hw, fun w hS => by
  obtain ⟨X, h1, h2⟩ := hS.get
  rw [hy X w h1]; exact ⟨rfl, hS⟩⟩) h
theorem runX_call (k : Nat) {args : Array Value} {v : Value} (hw : Region.wanted o (yielded ops a.tmps) = true) (hq : ∀ c a w, Q (.panic c) (a.put o.dst v) w → Q (.panic c) a w) (hwt : reach ops 6 q i = true) (hy : ∀ w, (execOp a.eval o).run Tryz.prog w = .ok (.enter k args) w)
 (hc : ∀ X w, St L w0 (rows ++ X) w → Calls Tryz.prog k args w fun e w' => e = .returned v ∧ St L w0 (rows ++ X) w') (h : RunX Tryz.prog ops Q (SX L w0 rows e) q E (i + 1) rest (a.put o.dst v)) : RunX Tryz.prog ops Q (SX L w0 rows e) q E i (o :: rest) a :=
 .read v hq hwt (fun x => .inl ⟨hw, fun w hS => by
  obtain ⟨X, h1, h2⟩ := hS.get
  rw [hy w]; exact (hc X w h1).mono fun _ _ h' => ⟨h'.1, h2 _ h'.2⟩⟩) h
theorem runX_pure {S : Option Nat → World → Prop} {v : Value} (hw : Region.wanted o (yielded ops a.tmps) = true) (hq : ∀ c a w, Q (.panic c) (a.put o.dst v) w → Q (.panic c) a w) (hy : ∀ w, (execOp a.eval o).run Tryz.prog w = .ok (.value v) w)
 (h : RunX Tryz.prog ops Q S q E (i + 1) rest (a.put o.dst v)) : RunX Tryz.prog ops Q S q E i (o :: rest) a := .pure v hq (.inl ⟨hw, hy⟩) h
theorem runX_cat {S : Option Nat → World → Prop} {x y : Operand} {ty : TypeId} (ho : o.op = .binOp .add 9 x y ty) (hw : Region.wanted o (yielded ops a.tmps) = true) {p r : Str} (hx : a.eval x = .string (B p)) (hy : a.eval y = .string (B r)) (hb : p.length + r.length ≤ 9223372036854775807)
 (hq : ∀ c a w, Q (.panic c) (a.put o.dst (.string (B (p ++ r)))) w → Q (.panic c) a w) (h : RunX Tryz.prog ops Q S q E (i + 1) rest (a.put o.dst (.string (B (p ++ r))))) : RunX Tryz.prog ops Q S q E i (o :: rest) a :=
 runX_pure hw hq (fun w => run_cat ho hx hy hb w) h
theorem runX_end {S : Option Nat → World → Prop} (h : E a) : RunX Tryz.prog ops Q S q E i [] a := .nil h
variable {S : Option Nat → World → Prop} {dst : Option Tmp} {ty : TypeId} {pos : String} {af : Array Edge} {gd : Option (Nat × Bool)}
theorem xat_load {T : Nat} {x : Operand} (h : RunX Tryz.prog ops Q S q E i ((⟨dst, .load T x, ty, pos, af, gd⟩ : Oper) :: rest) a) : RunX Tryz.prog ops Q S q E i ((⟨dst, .load T x, ty, pos, af, gd⟩ : Oper) :: rest) a := h
theorem xat_call {c : Call} (h : RunX Tryz.prog ops Q S q E i ((⟨dst, .call c, ty, pos, af, gd⟩ : Oper) :: rest) a) : RunX Tryz.prog ops Q S q E i ((⟨dst, .call c, ty, pos, af, gd⟩ : Oper) :: rest) a := h
theorem xat_cat {x y : Operand} {t : TypeId} (h : RunX Tryz.prog ops Q S q E i ((⟨dst, .binOp .add 9 x y t, ty, pos, af, gd⟩ : Oper) :: rest) a) : RunX Tryz.prog ops Q S q E i ((⟨dst, .binOp .add 9 x y t, ty, pos, af, gd⟩ : Oper) :: rest) a := h
theorem xat_any (h : RunX Tryz.prog ops Q S q E i (o :: rest) a) : RunX Tryz.prog ops Q S q E i (o :: rest) a := h
theorem xat_nil (h : RunX Tryz.prog ops Q S q E i [] a) : RunX Tryz.prog ops Q S q E i [] a := h
end
end Go.Proofs.YtdnnbfbhifelkaaGreatDoor
namespace Go.Proofs.YtdnnbfbhifelkaaGreatDoor
open Go.ChangeShapes Go.WideShapes Go.RowKit
def em_xl1 {L w0 rows ops rest o a Q e q i E x} ho hw hwt {g} hx {r : Em} {T'} hm hq h :=
 @runX_val L w0 rows Q a ops e q E o rest i (.agg (Rf.cells r.ref)) hw hq hwt (fun X w hS => @run_ld_part L w0 w (rows ++ X) o a hS 27 x ho g 1 hx _ _ T' (RowAt.app hm X) (em_part1 r) _ Tryz.underlying27 rfl rfs_info) h
def em_xl19 {L w0 rows ops rest o a Q e q i E x} ho hw hwt {g} hx {r : Em} {T'} hm hq h :=
 @runX_val L w0 rows Q a ops e q E o rest i (.agg (Am.cells r.amt)) hw hq hwt (fun X w hS => @run_ld_part L w0 w (rows ++ X) o a hS 29 x ho g 19 hx _ _ T' (RowAt.app hm X) (em_part19 r) _ Tryz.underlying29 rfl ams_info) h
def em_xl38 {L w0 rows ops rest o a Q e q i E x} ho hw hwt {g} hx {r : Em} {T'} hm hq h :=
 @runX_val L w0 rows Q a ops e q E o rest i (.int .i64 r.ctr) hw hq hwt (fun X w hS => @run_ld_cell L w0 w (rows ++ X) o a hS 3 x ho g 38 hx _ T' (RowAt.app hm X) scal3 _ (em_at38 r)) h
def em_xl39 {L w0 rows ops rest o a Q e q i E x} ho hw hwt {g} hx {r : Em} {T'} hm hq h :=
 @runX_val L w0 rows Q a ops e q E o rest i (.int .i64 r.zone) hw hq hwt (fun X w hS => @run_ld_cell L w0 w (rows ++ X) o a hS 3 x ho g 39 hx _ T' (RowAt.app hm X) scal3 _ (em_at39 r)) h
def em_xl41 {L w0 rows ops rest o a Q e q i E x} ho hw hwt {g} hx {r : Em} {T'} hm hq h :=
 @runX_val L w0 rows Q a ops e q E o rest i (.agg (Flt.cells r.flt)) hw hq hwt (fun X w hS => @run_ld_part L w0 w (rows ++ X) o a hS 25 x ho g 41 hx _ _ T' (RowAt.app hm X) (em_part41 r) _ Tryz.underlying25 rfl flt_info) h
def em_xl57 {L w0 rows ops rest o a Q e q i E x} ho hw hwt {g} hx {r : Em} {T'} hm hq h :=
 @runX_val L w0 rows Q a ops e q E o rest i (.agg (Po.cells r.pool)) hw hq hwt (fun X w hS => @run_ld_part L w0 w (rows ++ X) o a hS 31 x ho g 57 hx _ _ T' (RowAt.app hm X) (em_part57 r) _ Tryz.underlying31 rfl pol_info) h
def em_xl63 {L w0 rows ops rest o a Q e q i E x} ho hw hwt {g} hx {r : Em} {T'} hm hq h :=
 @runX_val L w0 rows Q a ops e q E o rest i (.slice r.mods.a r.mods.n r.mods.c) hw hq hwt (fun X w hS => @run_ld_cell L w0 w (rows ++ X) o a hS 32 x ho g 63 hx _ T' (RowAt.app hm X) scal32 _ (em_at63 r)) h
def us_xl0 {L w0 rows ops rest o a Q e q i E x} ho hw hwt {g} hx {r : Us} {T'} hm hq h :=
 @runX_val L w0 rows Q a ops e q E o rest i (.bool r.ref) hw hq hwt (fun X w hS => @run_ld_cell L w0 w (rows ++ X) o a hS 4 x ho g 0 hx _ T' (RowAt.app hm X) scal4 _ (us_at0 r)) h
def us_xl1 {L w0 rows ops rest o a Q e q i E x} ho hw hwt {g} hx {r : Us} {T'} hm hq h :=
 @runX_val L w0 rows Q a ops e q E o rest i (.bool r.amt) hw hq hwt (fun X w hS => @run_ld_cell L w0 w (rows ++ X) o a hS 4 x ho g 1 hx _ T' (RowAt.app hm X) scal4 _ (us_at1 r)) h
def us_xl2 {L w0 rows ops rest o a Q e q i E x} ho hw hwt {g} hx {r : Us} {T'} hm hq h :=
 @runX_val L w0 rows Q a ops e q E o rest i (.bool r.ctr) hw hq hwt (fun X w hS => @run_ld_cell L w0 w (rows ++ X) o a hS 4 x ho g 2 hx _ T' (RowAt.app hm X) scal4 _ (us_at2 r)) h
def us_xl3 {L w0 rows ops rest o a Q e q i E x} ho hw hwt {g} hx {r : Us} {T'} hm hq h :=
 @runX_val L w0 rows Q a ops e q E o rest i (.bool r.zone) hw hq hwt (fun X w hS => @run_ld_cell L w0 w (rows ++ X) o a hS 4 x ho g 3 hx _ T' (RowAt.app hm X) scal4 _ (us_at3 r)) h
def us_xl5 {L w0 rows ops rest o a Q e q i E x} ho hw hwt {g} hx {r : Us} {T'} hm hq h :=
 @runX_val L w0 rows Q a ops e q E o rest i (.bool r.flt) hw hq hwt (fun X w hS => @run_ld_cell L w0 w (rows ++ X) o a hS 4 x ho g 5 hx _ T' (RowAt.app hm X) scal4 _ (us_at5 r)) h
def us_xl6 {L w0 rows ops rest o a Q e q i E x} ho hw hwt {g} hx {r : Us} {T'} hm hq h :=
 @runX_val L w0 rows Q a ops e q E o rest i (.bool r.pool) hw hq hwt (fun X w hS => @run_ld_cell L w0 w (rows ++ X) o a hS 4 x ho g 6 hx _ T' (RowAt.app hm X) scal4 _ (us_at6 r)) h
def us_xl7 {L w0 rows ops rest o a Q e q i E x} ho hw hwt {g} hx {r : Us} {T'} hm hq h :=
 @runX_val L w0 rows Q a ops e q E o rest i (.bool r.mods) hw hq hwt (fun X w hS => @run_ld_cell L w0 w (rows ++ X) o a hS 4 x ho g 7 hx _ T' (RowAt.app hm X) scal4 _ (us_at7 r)) h
end Go.Proofs.YtdnnbfbhifelkaaGreatDoor
