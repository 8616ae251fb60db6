/- The laws of a filter's row for walks over St; the base of what chapters are given. Conditions: none. Strings put together in a walk over St: what is put together is named by its bytes. Conditions: none. Plain words: references to players and objects (chapter 16); Parse inverts Text. No program in sight. Plain words: amounts (chapter 14); Parse inverts Text. No program in sight. Plain words: conditions of triggered abilities (chapter 18); Parse inverts Text. No program in sight. Plain words: a filter's text is not long. No program in sight. -/
import Derived.Test.YtakgfbcmkhcdkaaGreatDoorMSt
import Derived.Test.YtakgfbcmkhcdkaaGreatDoorMFIs
import Derived.Laws.Concat
import Derived.Test.YtakgfbcmkhcdkaaGreatDoorPlain
import Derived.Test.YtakgfbcmkhcdkaaGreatDoorFil
import Derived.Lib.Strings
import Derived.Test.YtakgfbcmkhcdkaaGreatDoorKeys
import Derived.Lib.CutLaws
import Derived.Test.YtakgfbcmkhcdkaaGreatDoorMFText
namespace Go.Proofs.YtakgfbcmkhcdkaaGreatDoor
set_option linter.all false
open Go.ChangeShapes Go.WideShapes Go.RowKit
theorem infoStr1 : (Tryz.prog.info? 9).map (·.size) = some 1 := by kernel_rfl
theorem infoBool1 : (Tryz.prog.info? 4).map (·.size) = some 1 := by kernel_rfl
theorem scal3 : ∃ d, Tryz.prog.underlying 3 = some d ∧ d.isRow = false := ⟨_, Tryz.underlying3, rfl⟩
theorem scal9 : ∃ d, Tryz.prog.underlying 9 = some d ∧ d.isRow = false := ⟨_, Tryz.underlying9, rfl⟩
theorem scal4 : ∃ d, Tryz.prog.underlying 4 = some d ∧ d.isRow = false := ⟨_, Tryz.underlying4, rfl⟩
theorem flt_one (r : Flt) : r.cells.all (·.oneCell') = true := by simp [Flt.cells, Value.oneCell']
theorem flt_info : (Tryz.prog.info? 25).map (·.size) = some 16 := by kernel_rfl
theorem flt_new : ∀ w : World, (zeroValue 25).run Tryz.prog w = .ok (.agg (Flt.cells zeroF)) w := fun _ => by kernel_rfl
theorem flt_build_ : ∀ w : World, (Instr.build 25 ([] : List (Nat × Value)).toArray).run Tryz.prog w = .ok (.agg (Flt.cells ⟨(zeroF).zone, (zeroF).who, (zeroF).self, (zeroF).types, (zeroF).ntypes, (zeroF).colors, (zeroF).ncolors, (zeroF).sub, (zeroF).keys, (zeroF).tap, (zeroF).pk, (zeroF).pn, (zeroF).tk, (zeroF).tn, (zeroF).vk, (zeroF).vn⟩)) w := fun _ => by kernel_rfl
theorem flt_shape_ {ops : Array Oper} {rest : List Oper} {a : Act} {w : World} {Q : Exit → Act → World → Prop} {dst : Option Tmp} {ty : TypeId} {pos : String} {af : Array Edge} {gd : Option (Nat × Bool)} (h : wpList Tryz.prog ops Q ((⟨dst, .build 25 #[], ty, pos, af, gd⟩ : Oper) :: rest) a w) : wpList Tryz.prog ops Q ((⟨dst, .build 25 #[], ty, pos, af, gd⟩ : Oper) :: rest) a w := h
theorem flt_bld_ {ops : Array Oper} {rest : List Oper} {a : Act} {w : World} {Q : Exit → Act → World → Prop} {dst : Option Tmp} {ty : TypeId} {pos : String} {af : Array Edge} {gd : Option (Nat × Bool)} (hw : Region.wanted (⟨dst, .build 25 #[], ty, pos, af, gd⟩ : Oper) (yielded ops a.tmps) = true) (h : wpList Tryz.prog ops Q rest (a.put dst (.agg (Flt.cells ⟨(zeroF).zone, (zeroF).who, (zeroF).self, (zeroF).types, (zeroF).ntypes, (zeroF).colors, (zeroF).ncolors, (zeroF).sub, (zeroF).keys, (zeroF).tap, (zeroF).pk, (zeroF).pn, (zeroF).tk, (zeroF).tn, (zeroF).vk, (zeroF).vn⟩))) w) : wpList Tryz.prog ops Q ((⟨dst, .build 25 #[], ty, pos, af, gd⟩ : Oper) :: rest) a w :=
  wpList_bld (l := []) rfl hw (ps := []) (by simp only [List.map_cons, List.map_nil]) (flt_build_) h
theorem flt_at0 (r : Flt) : (Flt.cells r)[0]? = some (.int .i64 r.zone) := rfl
theorem flt_set0 (r : Flt) (x : Int) : (Flt.cells r).toList.take 0 ++ (Value.cells (.int .i64 x)).toList ++ (Flt.cells r).toList.drop (0 + (Value.cells (.int .i64 x)).size) = (Flt.cells ⟨x, r.who, r.self, r.types, r.ntypes, r.colors, r.ncolors, r.sub, r.keys, r.tap, r.pk, r.pn, r.tk, r.tn, r.vk, r.vn⟩).toList := rfl
theorem flt_at1 (r : Flt) : (Flt.cells r)[1]? = some (.int .i64 r.who) := rfl
theorem flt_set1 (r : Flt) (x : Int) : (Flt.cells r).toList.take 1 ++ (Value.cells (.int .i64 x)).toList ++ (Flt.cells r).toList.drop (1 + (Value.cells (.int .i64 x)).size) = (Flt.cells ⟨r.zone, x, r.self, r.types, r.ntypes, r.colors, r.ncolors, r.sub, r.keys, r.tap, r.pk, r.pn, r.tk, r.tn, r.vk, r.vn⟩).toList := rfl
theorem flt_at2 (r : Flt) : (Flt.cells r)[2]? = some (.int .i64 r.self) := rfl
theorem flt_set2 (r : Flt) (x : Int) : (Flt.cells r).toList.take 2 ++ (Value.cells (.int .i64 x)).toList ++ (Flt.cells r).toList.drop (2 + (Value.cells (.int .i64 x)).size) = (Flt.cells ⟨r.zone, r.who, x, r.types, r.ntypes, r.colors, r.ncolors, r.sub, r.keys, r.tap, r.pk, r.pn, r.tk, r.tn, r.vk, r.vn⟩).toList := rfl
theorem flt_at3 (r : Flt) : (Flt.cells r)[3]? = some (.int .i64 r.types) := rfl
theorem flt_set3 (r : Flt) (x : Int) : (Flt.cells r).toList.take 3 ++ (Value.cells (.int .i64 x)).toList ++ (Flt.cells r).toList.drop (3 + (Value.cells (.int .i64 x)).size) = (Flt.cells ⟨r.zone, r.who, r.self, x, r.ntypes, r.colors, r.ncolors, r.sub, r.keys, r.tap, r.pk, r.pn, r.tk, r.tn, r.vk, r.vn⟩).toList := rfl
theorem flt_at4 (r : Flt) : (Flt.cells r)[4]? = some (.int .i64 r.ntypes) := rfl
theorem flt_set4 (r : Flt) (x : Int) : (Flt.cells r).toList.take 4 ++ (Value.cells (.int .i64 x)).toList ++ (Flt.cells r).toList.drop (4 + (Value.cells (.int .i64 x)).size) = (Flt.cells ⟨r.zone, r.who, r.self, r.types, x, r.colors, r.ncolors, r.sub, r.keys, r.tap, r.pk, r.pn, r.tk, r.tn, r.vk, r.vn⟩).toList := rfl
theorem flt_at5 (r : Flt) : (Flt.cells r)[5]? = some (.int .i64 r.colors) := rfl
theorem flt_set5 (r : Flt) (x : Int) : (Flt.cells r).toList.take 5 ++ (Value.cells (.int .i64 x)).toList ++ (Flt.cells r).toList.drop (5 + (Value.cells (.int .i64 x)).size) = (Flt.cells ⟨r.zone, r.who, r.self, r.types, r.ntypes, x, r.ncolors, r.sub, r.keys, r.tap, r.pk, r.pn, r.tk, r.tn, r.vk, r.vn⟩).toList := rfl
theorem flt_at6 (r : Flt) : (Flt.cells r)[6]? = some (.int .i64 r.ncolors) := rfl
theorem flt_set6 (r : Flt) (x : Int) : (Flt.cells r).toList.take 6 ++ (Value.cells (.int .i64 x)).toList ++ (Flt.cells r).toList.drop (6 + (Value.cells (.int .i64 x)).size) = (Flt.cells ⟨r.zone, r.who, r.self, r.types, r.ntypes, r.colors, x, r.sub, r.keys, r.tap, r.pk, r.pn, r.tk, r.tn, r.vk, r.vn⟩).toList := rfl
theorem flt_at7 (r : Flt) : (Flt.cells r)[7]? = some (.string r.sub) := rfl
theorem flt_set7 (r : Flt) (x : ByteArray) : (Flt.cells r).toList.take 7 ++ (Value.cells (.string x)).toList ++ (Flt.cells r).toList.drop (7 + (Value.cells (.string x)).size) = (Flt.cells ⟨r.zone, r.who, r.self, r.types, r.ntypes, r.colors, r.ncolors, x, r.keys, r.tap, r.pk, r.pn, r.tk, r.tn, r.vk, r.vn⟩).toList := rfl
theorem flt_at8 (r : Flt) : (Flt.cells r)[8]? = some (.int .i64 r.keys) := rfl
theorem flt_set8 (r : Flt) (x : Int) : (Flt.cells r).toList.take 8 ++ (Value.cells (.int .i64 x)).toList ++ (Flt.cells r).toList.drop (8 + (Value.cells (.int .i64 x)).size) = (Flt.cells ⟨r.zone, r.who, r.self, r.types, r.ntypes, r.colors, r.ncolors, r.sub, x, r.tap, r.pk, r.pn, r.tk, r.tn, r.vk, r.vn⟩).toList := rfl
theorem flt_at9 (r : Flt) : (Flt.cells r)[9]? = some (.int .i64 r.tap) := rfl
theorem flt_set9 (r : Flt) (x : Int) : (Flt.cells r).toList.take 9 ++ (Value.cells (.int .i64 x)).toList ++ (Flt.cells r).toList.drop (9 + (Value.cells (.int .i64 x)).size) = (Flt.cells ⟨r.zone, r.who, r.self, r.types, r.ntypes, r.colors, r.ncolors, r.sub, r.keys, x, r.pk, r.pn, r.tk, r.tn, r.vk, r.vn⟩).toList := rfl
theorem flt_at10 (r : Flt) : (Flt.cells r)[10]? = some (.int .i64 r.pk) := rfl
theorem flt_set10 (r : Flt) (x : Int) : (Flt.cells r).toList.take 10 ++ (Value.cells (.int .i64 x)).toList ++ (Flt.cells r).toList.drop (10 + (Value.cells (.int .i64 x)).size) = (Flt.cells ⟨r.zone, r.who, r.self, r.types, r.ntypes, r.colors, r.ncolors, r.sub, r.keys, r.tap, x, r.pn, r.tk, r.tn, r.vk, r.vn⟩).toList := rfl
theorem flt_at11 (r : Flt) : (Flt.cells r)[11]? = some (.int .i64 r.pn) := rfl
theorem flt_set11 (r : Flt) (x : Int) : (Flt.cells r).toList.take 11 ++ (Value.cells (.int .i64 x)).toList ++ (Flt.cells r).toList.drop (11 + (Value.cells (.int .i64 x)).size) = (Flt.cells ⟨r.zone, r.who, r.self, r.types, r.ntypes, r.colors, r.ncolors, r.sub, r.keys, r.tap, r.pk, x, r.tk, r.tn, r.vk, r.vn⟩).toList := rfl
theorem flt_at12 (r : Flt) : (Flt.cells r)[12]? = some (.int .i64 r.tk) := rfl
theorem flt_set12 (r : Flt) (x : Int) : (Flt.cells r).toList.take 12 ++ (Value.cells (.int .i64 x)).toList ++ (Flt.cells r).toList.drop (12 + (Value.cells (.int .i64 x)).size) = (Flt.cells ⟨r.zone, r.who, r.self, r.types, r.ntypes, r.colors, r.ncolors, r.sub, r.keys, r.tap, r.pk, r.pn, x, r.tn, r.vk, r.vn⟩).toList := rfl
theorem flt_at13 (r : Flt) : (Flt.cells r)[13]? = some (.int .i64 r.tn) := rfl
theorem flt_set13 (r : Flt) (x : Int) : (Flt.cells r).toList.take 13 ++ (Value.cells (.int .i64 x)).toList ++ (Flt.cells r).toList.drop (13 + (Value.cells (.int .i64 x)).size) = (Flt.cells ⟨r.zone, r.who, r.self, r.types, r.ntypes, r.colors, r.ncolors, r.sub, r.keys, r.tap, r.pk, r.pn, r.tk, x, r.vk, r.vn⟩).toList := rfl
theorem flt_at14 (r : Flt) : (Flt.cells r)[14]? = some (.int .i64 r.vk) := rfl
theorem flt_set14 (r : Flt) (x : Int) : (Flt.cells r).toList.take 14 ++ (Value.cells (.int .i64 x)).toList ++ (Flt.cells r).toList.drop (14 + (Value.cells (.int .i64 x)).size) = (Flt.cells ⟨r.zone, r.who, r.self, r.types, r.ntypes, r.colors, r.ncolors, r.sub, r.keys, r.tap, r.pk, r.pn, r.tk, r.tn, x, r.vn⟩).toList := rfl
theorem flt_at15 (r : Flt) : (Flt.cells r)[15]? = some (.int .i64 r.vn) := rfl
theorem flt_set15 (r : Flt) (x : Int) : (Flt.cells r).toList.take 15 ++ (Value.cells (.int .i64 x)).toList ++ (Flt.cells r).toList.drop (15 + (Value.cells (.int .i64 x)).size) = (Flt.cells ⟨r.zone, r.who, r.self, r.types, r.ntypes, r.colors, r.ncolors, r.sub, r.keys, r.tap, r.pk, r.pn, r.tk, r.tn, r.vk, x⟩).toList := rfl
theorem flt_put (r x : Flt) : (Flt.cells r).toList.take 0 ++ (Value.cells (.agg (Flt.cells x))).toList ++ (Flt.cells r).toList.drop (0 + (Value.cells (.agg (Flt.cells x))).size) = (Flt.cells x).toList := rfl
theorem flt_st0 {L : World → Prop} {w0 w : World} {rows : List Row} {ops : Array Oper} {rest : List Oper} {o : Oper} {a : Act} {Q : Exit → Act → World → Prop} {x y : Operand} (ho : o.op = .store 3 x y) (hS : St L w0 rows w) (hw : Region.wanted o (yielded ops a.tmps) = true) {g : Nat} (hx : a.eval x = .pointer (some ⟨g, 0, none⟩)) {v : Int} (hy : a.eval y = .int .i64 v) {r : Flt} {T' : Nat} {rows' : List Row} (hm : RowSet g (Flt.cells r) (Flt.cells ⟨v, r.who, r.self, r.types, r.ntypes, r.colors, r.ncolors, r.sub, r.keys, r.tap, r.pk, r.pn, r.tk, r.tn, r.vk, r.vn⟩) T' rows rows') (h : ∀ w', St L w0 rows' w' → wpList Tryz.prog ops Q rest (a.put o.dst undef) w') : wpList Tryz.prog ops Q (o :: rest) a w :=
  wpList_st ho hS hw hx hy hm (Nat.le_of_ble_eq_true rfl) (flt_set0 r v) infoInt1 (by simp [Value.cells, Value.oneCell']) h
theorem flt_st1 {L : World → Prop} {w0 w : World} {rows : List Row} {ops : Array Oper} {rest : List Oper} {o : Oper} {a : Act} {Q : Exit → Act → World → Prop} {x y : Operand} (ho : o.op = .store 3 x y) (hS : St L w0 rows w) (hw : Region.wanted o (yielded ops a.tmps) = true) {g : Nat} (hx : a.eval x = .pointer (some ⟨g, 1, none⟩)) {v : Int} (hy : a.eval y = .int .i64 v) {r : Flt} {T' : Nat} {rows' : List Row} (hm : RowSet g (Flt.cells r) (Flt.cells ⟨r.zone, v, r.self, r.types, r.ntypes, r.colors, r.ncolors, r.sub, r.keys, r.tap, r.pk, r.pn, r.tk, r.tn, r.vk, r.vn⟩) T' rows rows') (h : ∀ w', St L w0 rows' w' → wpList Tryz.prog ops Q rest (a.put o.dst undef) w') : wpList Tryz.prog ops Q (o :: rest) a w :=
  wpList_st ho hS hw hx hy hm (Nat.le_of_ble_eq_true rfl) (flt_set1 r v) infoInt1 (by simp [Value.cells, Value.oneCell']) h
theorem flt_st2 {L : World → Prop} {w0 w : World} {rows : List Row} {ops : Array Oper} {rest : List Oper} {o : Oper} {a : Act} {Q : Exit → Act → World → Prop} {x y : Operand} (ho : o.op = .store 3 x y) (hS : St L w0 rows w) (hw : Region.wanted o (yielded ops a.tmps) = true) {g : Nat} (hx : a.eval x = .pointer (some ⟨g, 2, none⟩)) {v : Int} (hy : a.eval y = .int .i64 v) {r : Flt} {T' : Nat} {rows' : List Row} (hm : RowSet g (Flt.cells r) (Flt.cells ⟨r.zone, r.who, v, r.types, r.ntypes, r.colors, r.ncolors, r.sub, r.keys, r.tap, r.pk, r.pn, r.tk, r.tn, r.vk, r.vn⟩) T' rows rows') (h : ∀ w', St L w0 rows' w' → wpList Tryz.prog ops Q rest (a.put o.dst undef) w') : wpList Tryz.prog ops Q (o :: rest) a w :=
  wpList_st ho hS hw hx hy hm (Nat.le_of_ble_eq_true rfl) (flt_set2 r v) infoInt1 (by simp [Value.cells, Value.oneCell']) h
theorem flt_st3 {L : World → Prop} {w0 w : World} {rows : List Row} {ops : Array Oper} {rest : List Oper} {o : Oper} {a : Act} {Q : Exit → Act → World → Prop} {x y : Operand} (ho : o.op = .store 3 x y) (hS : St L w0 rows w) (hw : Region.wanted o (yielded ops a.tmps) = true) {g : Nat} (hx : a.eval x = .pointer (some ⟨g, 3, none⟩)) {v : Int} (hy : a.eval y = .int .i64 v) {r : Flt} {T' : Nat} {rows' : List Row} (hm : RowSet g (Flt.cells r) (Flt.cells ⟨r.zone, r.who, r.self, v, r.ntypes, r.colors, r.ncolors, r.sub, r.keys, r.tap, r.pk, r.pn, r.tk, r.tn, r.vk, r.vn⟩) T' rows rows') (h : ∀ w', St L w0 rows' w' → wpList Tryz.prog ops Q rest (a.put o.dst undef) w') : wpList Tryz.prog ops Q (o :: rest) a w :=
  wpList_st ho hS hw hx hy hm (Nat.le_of_ble_eq_true rfl) (flt_set3 r v) infoInt1 (by simp [Value.cells, Value.oneCell']) h
theorem flt_st4 {L : World → Prop} {w0 w : World} {rows : List Row} {ops : Array Oper} {rest : List Oper} {o : Oper} {a : Act} {Q : Exit → Act → World → Prop} {x y : Operand} (ho : o.op = .store 3 x y) (hS : St L w0 rows w) (hw : Region.wanted o (yielded ops a.tmps) = true) {g : Nat} (hx : a.eval x = .pointer (some ⟨g, 4, none⟩)) {v : Int} (hy : a.eval y = .int .i64 v) {r : Flt} {T' : Nat} {rows' : List Row} (hm : RowSet g (Flt.cells r) (Flt.cells ⟨r.zone, r.who, r.self, r.types, v, r.colors, r.ncolors, r.sub, r.keys, r.tap, r.pk, r.pn, r.tk, r.tn, r.vk, r.vn⟩) T' rows rows') (h : ∀ w', St L w0 rows' w' → wpList Tryz.prog ops Q rest (a.put o.dst undef) w') : wpList Tryz.prog ops Q (o :: rest) a w :=
  wpList_st ho hS hw hx hy hm (Nat.le_of_ble_eq_true rfl) (flt_set4 r v) infoInt1 (by simp [Value.cells, Value.oneCell']) h
theorem flt_st5 {L : World → Prop} {w0 w : World} {rows : List Row} {ops : Array Oper} {rest : List Oper} {o : Oper} {a : Act} {Q : Exit → Act → World → Prop} {x y : Operand} (ho : o.op = .store 3 x y) (hS : St L w0 rows w) (hw : Region.wanted o (yielded ops a.tmps) = true) {g : Nat} (hx : a.eval x = .pointer (some ⟨g, 5, none⟩)) {v : Int} (hy : a.eval y = .int .i64 v) {r : Flt} {T' : Nat} {rows' : List Row} (hm : RowSet g (Flt.cells r) (Flt.cells ⟨r.zone, r.who, r.self, r.types, r.ntypes, v, r.ncolors, r.sub, r.keys, r.tap, r.pk, r.pn, r.tk, r.tn, r.vk, r.vn⟩) T' rows rows') (h : ∀ w', St L w0 rows' w' → wpList Tryz.prog ops Q rest (a.put o.dst undef) w') : wpList Tryz.prog ops Q (o :: rest) a w :=
  wpList_st ho hS hw hx hy hm (Nat.le_of_ble_eq_true rfl) (flt_set5 r v) infoInt1 (by simp [Value.cells, Value.oneCell']) h
theorem flt_st6 {L : World → Prop} {w0 w : World} {rows : List Row} {ops : Array Oper} {rest : List Oper} {o : Oper} {a : Act} {Q : Exit → Act → World → Prop} {x y : Operand} (ho : o.op = .store 3 x y) (hS : St L w0 rows w) (hw : Region.wanted o (yielded ops a.tmps) = true) {g : Nat} (hx : a.eval x = .pointer (some ⟨g, 6, none⟩)) {v : Int} (hy : a.eval y = .int .i64 v) {r : Flt} {T' : Nat} {rows' : List Row} (hm : RowSet g (Flt.cells r) (Flt.cells ⟨r.zone, r.who, r.self, r.types, r.ntypes, r.colors, v, r.sub, r.keys, r.tap, r.pk, r.pn, r.tk, r.tn, r.vk, r.vn⟩) T' rows rows') (h : ∀ w', St L w0 rows' w' → wpList Tryz.prog ops Q rest (a.put o.dst undef) w') : wpList Tryz.prog ops Q (o :: rest) a w :=
  wpList_st ho hS hw hx hy hm (Nat.le_of_ble_eq_true rfl) (flt_set6 r v) infoInt1 (by simp [Value.cells, Value.oneCell']) h
theorem flt_st7 {L : World → Prop} {w0 w : World} {rows : List Row} {ops : Array Oper} {rest : List Oper} {o : Oper} {a : Act} {Q : Exit → Act → World → Prop} {x y : Operand} (ho : o.op = .store 9 x y) (hS : St L w0 rows w) (hw : Region.wanted o (yielded ops a.tmps) = true) {g : Nat} (hx : a.eval x = .pointer (some ⟨g, 7, none⟩)) {v : ByteArray} (hy : a.eval y = .string v) {r : Flt} {T' : Nat} {rows' : List Row} (hm : RowSet g (Flt.cells r) (Flt.cells ⟨r.zone, r.who, r.self, r.types, r.ntypes, r.colors, r.ncolors, v, r.keys, r.tap, r.pk, r.pn, r.tk, r.tn, r.vk, r.vn⟩) T' rows rows') (h : ∀ w', St L w0 rows' w' → wpList Tryz.prog ops Q rest (a.put o.dst undef) w') : wpList Tryz.prog ops Q (o :: rest) a w :=
  wpList_st ho hS hw hx hy hm (Nat.le_of_ble_eq_true rfl) (flt_set7 r v) infoStr1 (by simp [Value.cells, Value.oneCell']) h
theorem flt_st8 {L : World → Prop} {w0 w : World} {rows : List Row} {ops : Array Oper} {rest : List Oper} {o : Oper} {a : Act} {Q : Exit → Act → World → Prop} {x y : Operand} (ho : o.op = .store 3 x y) (hS : St L w0 rows w) (hw : Region.wanted o (yielded ops a.tmps) = true) {g : Nat} (hx : a.eval x = .pointer (some ⟨g, 8, none⟩)) {v : Int} (hy : a.eval y = .int .i64 v) {r : Flt} {T' : Nat} {rows' : List Row} (hm : RowSet g (Flt.cells r) (Flt.cells ⟨r.zone, r.who, r.self, r.types, r.ntypes, r.colors, r.ncolors, r.sub, v, r.tap, r.pk, r.pn, r.tk, r.tn, r.vk, r.vn⟩) T' rows rows') (h : ∀ w', St L w0 rows' w' → wpList Tryz.prog ops Q rest (a.put o.dst undef) w') : wpList Tryz.prog ops Q (o :: rest) a w :=
  wpList_st ho hS hw hx hy hm (Nat.le_of_ble_eq_true rfl) (flt_set8 r v) infoInt1 (by simp [Value.cells, Value.oneCell']) h
theorem flt_st9 {L : World → Prop} {w0 w : World} {rows : List Row} {ops : Array Oper} {rest : List Oper} {o : Oper} {a : Act} {Q : Exit → Act → World → Prop} {x y : Operand} (ho : o.op = .store 3 x y) (hS : St L w0 rows w) (hw : Region.wanted o (yielded ops a.tmps) = true) {g : Nat} (hx : a.eval x = .pointer (some ⟨g, 9, none⟩)) {v : Int} (hy : a.eval y = .int .i64 v) {r : Flt} {T' : Nat} {rows' : List Row} (hm : RowSet g (Flt.cells r) (Flt.cells ⟨r.zone, r.who, r.self, r.types, r.ntypes, r.colors, r.ncolors, r.sub, r.keys, v, r.pk, r.pn, r.tk, r.tn, r.vk, r.vn⟩) T' rows rows') (h : ∀ w', St L w0 rows' w' → wpList Tryz.prog ops Q rest (a.put o.dst undef) w') : wpList Tryz.prog ops Q (o :: rest) a w :=
  wpList_st ho hS hw hx hy hm (Nat.le_of_ble_eq_true rfl) (flt_set9 r v) infoInt1 (by simp [Value.cells, Value.oneCell']) h
theorem flt_st10 {L : World → Prop} {w0 w : World} {rows : List Row} {ops : Array Oper} {rest : List Oper} {o : Oper} {a : Act} {Q : Exit → Act → World → Prop} {x y : Operand} (ho : o.op = .store 3 x y) (hS : St L w0 rows w) (hw : Region.wanted o (yielded ops a.tmps) = true) {g : Nat} (hx : a.eval x = .pointer (some ⟨g, 10, none⟩)) {v : Int} (hy : a.eval y = .int .i64 v) {r : Flt} {T' : Nat} {rows' : List Row} (hm : RowSet g (Flt.cells r) (Flt.cells ⟨r.zone, r.who, r.self, r.types, r.ntypes, r.colors, r.ncolors, r.sub, r.keys, r.tap, v, r.pn, r.tk, r.tn, r.vk, r.vn⟩) T' rows rows') (h : ∀ w', St L w0 rows' w' → wpList Tryz.prog ops Q rest (a.put o.dst undef) w') : wpList Tryz.prog ops Q (o :: rest) a w :=
  wpList_st ho hS hw hx hy hm (Nat.le_of_ble_eq_true rfl) (flt_set10 r v) infoInt1 (by simp [Value.cells, Value.oneCell']) h
theorem flt_st11 {L : World → Prop} {w0 w : World} {rows : List Row} {ops : Array Oper} {rest : List Oper} {o : Oper} {a : Act} {Q : Exit → Act → World → Prop} {x y : Operand} (ho : o.op = .store 3 x y) (hS : St L w0 rows w) (hw : Region.wanted o (yielded ops a.tmps) = true) {g : Nat} (hx : a.eval x = .pointer (some ⟨g, 11, none⟩)) {v : Int} (hy : a.eval y = .int .i64 v) {r : Flt} {T' : Nat} {rows' : List Row} (hm : RowSet g (Flt.cells r) (Flt.cells ⟨r.zone, r.who, r.self, r.types, r.ntypes, r.colors, r.ncolors, r.sub, r.keys, r.tap, r.pk, v, r.tk, r.tn, r.vk, r.vn⟩) T' rows rows') (h : ∀ w', St L w0 rows' w' → wpList Tryz.prog ops Q rest (a.put o.dst undef) w') : wpList Tryz.prog ops Q (o :: rest) a w :=
  wpList_st ho hS hw hx hy hm (Nat.le_of_ble_eq_true rfl) (flt_set11 r v) infoInt1 (by simp [Value.cells, Value.oneCell']) h
theorem flt_st12 {L : World → Prop} {w0 w : World} {rows : List Row} {ops : Array Oper} {rest : List Oper} {o : Oper} {a : Act} {Q : Exit → Act → World → Prop} {x y : Operand} (ho : o.op = .store 3 x y) (hS : St L w0 rows w) (hw : Region.wanted o (yielded ops a.tmps) = true) {g : Nat} (hx : a.eval x = .pointer (some ⟨g, 12, none⟩)) {v : Int} (hy : a.eval y = .int .i64 v) {r : Flt} {T' : Nat} {rows' : List Row} (hm : RowSet g (Flt.cells r) (Flt.cells ⟨r.zone, r.who, r.self, r.types, r.ntypes, r.colors, r.ncolors, r.sub, r.keys, r.tap, r.pk, r.pn, v, r.tn, r.vk, r.vn⟩) T' rows rows') (h : ∀ w', St L w0 rows' w' → wpList Tryz.prog ops Q rest (a.put o.dst undef) w') : wpList Tryz.prog ops Q (o :: rest) a w :=
  wpList_st ho hS hw hx hy hm (Nat.le_of_ble_eq_true rfl) (flt_set12 r v) infoInt1 (by simp [Value.cells, Value.oneCell']) h
theorem flt_st13 {L : World → Prop} {w0 w : World} {rows : List Row} {ops : Array Oper} {rest : List Oper} {o : Oper} {a : Act} {Q : Exit → Act → World → Prop} {x y : Operand} (ho : o.op = .store 3 x y) (hS : St L w0 rows w) (hw : Region.wanted o (yielded ops a.tmps) = true) {g : Nat} (hx : a.eval x = .pointer (some ⟨g, 13, none⟩)) {v : Int} (hy : a.eval y = .int .i64 v) {r : Flt} {T' : Nat} {rows' : List Row} (hm : RowSet g (Flt.cells r) (Flt.cells ⟨r.zone, r.who, r.self, r.types, r.ntypes, r.colors, r.ncolors, r.sub, r.keys, r.tap, r.pk, r.pn, r.tk, v, r.vk, r.vn⟩) T' rows rows') (h : ∀ w', St L w0 rows' w' → wpList Tryz.prog ops Q rest (a.put o.dst undef) w') : wpList Tryz.prog ops Q (o :: rest) a w :=
  wpList_st ho hS hw hx hy hm (Nat.le_of_ble_eq_true rfl) (flt_set13 r v) infoInt1 (by simp [Value.cells, Value.oneCell']) h
theorem flt_st14 {L : World → Prop} {w0 w : World} {rows : List Row} {ops : Array Oper} {rest : List Oper} {o : Oper} {a : Act} {Q : Exit → Act → World → Prop} {x y : Operand} (ho : o.op = .store 3 x y) (hS : St L w0 rows w) (hw : Region.wanted o (yielded ops a.tmps) = true) {g : Nat} (hx : a.eval x = .pointer (some ⟨g, 14, none⟩)) {v : Int} (hy : a.eval y = .int .i64 v) {r : Flt} {T' : Nat} {rows' : List Row} (hm : RowSet g (Flt.cells r) (Flt.cells ⟨r.zone, r.who, r.self, r.types, r.ntypes, r.colors, r.ncolors, r.sub, r.keys, r.tap, r.pk, r.pn, r.tk, r.tn, v, r.vn⟩) T' rows rows') (h : ∀ w', St L w0 rows' w' → wpList Tryz.prog ops Q rest (a.put o.dst undef) w') : wpList Tryz.prog ops Q (o :: rest) a w :=
  wpList_st ho hS hw hx hy hm (Nat.le_of_ble_eq_true rfl) (flt_set14 r v) infoInt1 (by simp [Value.cells, Value.oneCell']) h
theorem flt_st15 {L : World → Prop} {w0 w : World} {rows : List Row} {ops : Array Oper} {rest : List Oper} {o : Oper} {a : Act} {Q : Exit → Act → World → Prop} {x y : Operand} (ho : o.op = .store 3 x y) (hS : St L w0 rows w) (hw : Region.wanted o (yielded ops a.tmps) = true) {g : Nat} (hx : a.eval x = .pointer (some ⟨g, 15, none⟩)) {v : Int} (hy : a.eval y = .int .i64 v) {r : Flt} {T' : Nat} {rows' : List Row} (hm : RowSet g (Flt.cells r) (Flt.cells ⟨r.zone, r.who, r.self, r.types, r.ntypes, r.colors, r.ncolors, r.sub, r.keys, r.tap, r.pk, r.pn, r.tk, r.tn, r.vk, v⟩) T' rows rows') (h : ∀ w', St L w0 rows' w' → wpList Tryz.prog ops Q rest (a.put o.dst undef) w') : wpList Tryz.prog ops Q (o :: rest) a w :=
  wpList_st ho hS hw hx hy hm (Nat.le_of_ble_eq_true rfl) (flt_set15 r v) infoInt1 (by simp [Value.cells, Value.oneCell']) h
theorem flt_stw {L : World → Prop} {w0 w : World} {rows : List Row} {ops : Array Oper} {rest : List Oper} {o : Oper} {a : Act} {Q : Exit → Act → World → Prop} {x y : Operand} (ho : o.op = .store 25 x y) (hS : St L w0 rows w) (hw : Region.wanted o (yielded ops a.tmps) = true) {g : Nat} (hx : a.eval x = .pointer (some ⟨g, 0, none⟩)) {v : Flt} (hy : a.eval y = .agg (Flt.cells v)) {r : Flt} {T' : Nat} {rows' : List Row} (hm : RowSet g (Flt.cells r) (Flt.cells v) T' rows rows') (h : ∀ w', St L w0 rows' w' → wpList Tryz.prog ops Q rest (a.put o.dst undef) w') : wpList Tryz.prog ops Q (o :: rest) a w :=
  wpList_st ho hS hw hx hy hm (Nat.le_of_ble_eq_true rfl) (flt_put r v) flt_info (flt_one v) h
theorem flt_ld0 {L : World → Prop} {w0 w : World} {rows : List Row} {ops : Array Oper} {rest : List Oper} {o : Oper} {a : Act} {Q : Exit → Act → World → Prop} {x : Operand} (ho : o.op = .load 3 x) (hS : St L w0 rows w) (hw : Region.wanted o (yielded ops a.tmps) = true) {g : Nat} (hx : a.eval x = .pointer (some ⟨g, 0, none⟩)) {r : Flt} {T' : Nat} (hm : RowAt g (Flt.cells r) T' rows) (h : wpList Tryz.prog ops Q rest (a.put o.dst (.int .i64 r.zone)) w) : wpList Tryz.prog ops Q (o :: rest) a w :=
  wpList_ld_cell ho hS hw hx hm scal3 (flt_at0 r) h
theorem flt_ld1 {L : World → Prop} {w0 w : World} {rows : List Row} {ops : Array Oper} {rest : List Oper} {o : Oper} {a : Act} {Q : Exit → Act → World → Prop} {x : Operand} (ho : o.op = .load 3 x) (hS : St L w0 rows w) (hw : Region.wanted o (yielded ops a.tmps) = true) {g : Nat} (hx : a.eval x = .pointer (some ⟨g, 1, none⟩)) {r : Flt} {T' : Nat} (hm : RowAt g (Flt.cells r) T' rows) (h : wpList Tryz.prog ops Q rest (a.put o.dst (.int .i64 r.who)) w) : wpList Tryz.prog ops Q (o :: rest) a w :=
  wpList_ld_cell ho hS hw hx hm scal3 (flt_at1 r) h
theorem flt_ld2 {L : World → Prop} {w0 w : World} {rows : List Row} {ops : Array Oper} {rest : List Oper} {o : Oper} {a : Act} {Q : Exit → Act → World → Prop} {x : Operand} (ho : o.op = .load 3 x) (hS : St L w0 rows w) (hw : Region.wanted o (yielded ops a.tmps) = true) {g : Nat} (hx : a.eval x = .pointer (some ⟨g, 2, none⟩)) {r : Flt} {T' : Nat} (hm : RowAt g (Flt.cells r) T' rows) (h : wpList Tryz.prog ops Q rest (a.put o.dst (.int .i64 r.self)) w) : wpList Tryz.prog ops Q (o :: rest) a w :=
  wpList_ld_cell ho hS hw hx hm scal3 (flt_at2 r) h
theorem flt_ld3 {L : World → Prop} {w0 w : World} {rows : List Row} {ops : Array Oper} {rest : List Oper} {o : Oper} {a : Act} {Q : Exit → Act → World → Prop} {x : Operand} (ho : o.op = .load 3 x) (hS : St L w0 rows w) (hw : Region.wanted o (yielded ops a.tmps) = true) {g : Nat} (hx : a.eval x = .pointer (some ⟨g, 3, none⟩)) {r : Flt} {T' : Nat} (hm : RowAt g (Flt.cells r) T' rows) (h : wpList Tryz.prog ops Q rest (a.put o.dst (.int .i64 r.types)) w) : wpList Tryz.prog ops Q (o :: rest) a w :=
  wpList_ld_cell ho hS hw hx hm scal3 (flt_at3 r) h
theorem flt_ld4 {L : World → Prop} {w0 w : World} {rows : List Row} {ops : Array Oper} {rest : List Oper} {o : Oper} {a : Act} {Q : Exit → Act → World → Prop} {x : Operand} (ho : o.op = .load 3 x) (hS : St L w0 rows w) (hw : Region.wanted o (yielded ops a.tmps) = true) {g : Nat} (hx : a.eval x = .pointer (some ⟨g, 4, none⟩)) {r : Flt} {T' : Nat} (hm : RowAt g (Flt.cells r) T' rows) (h : wpList Tryz.prog ops Q rest (a.put o.dst (.int .i64 r.ntypes)) w) : wpList Tryz.prog ops Q (o :: rest) a w :=
  wpList_ld_cell ho hS hw hx hm scal3 (flt_at4 r) h
theorem flt_ld5 {L : World → Prop} {w0 w : World} {rows : List Row} {ops : Array Oper} {rest : List Oper} {o : Oper} {a : Act} {Q : Exit → Act → World → Prop} {x : Operand} (ho : o.op = .load 3 x) (hS : St L w0 rows w) (hw : Region.wanted o (yielded ops a.tmps) = true) {g : Nat} (hx : a.eval x = .pointer (some ⟨g, 5, none⟩)) {r : Flt} {T' : Nat} (hm : RowAt g (Flt.cells r) T' rows) (h : wpList Tryz.prog ops Q rest (a.put o.dst (.int .i64 r.colors)) w) : wpList Tryz.prog ops Q (o :: rest) a w :=
  wpList_ld_cell ho hS hw hx hm scal3 (flt_at5 r) h
theorem flt_ld6 {L : World → Prop} {w0 w : World} {rows : List Row} {ops : Array Oper} {rest : List Oper} {o : Oper} {a : Act} {Q : Exit → Act → World → Prop} {x : Operand} (ho : o.op = .load 3 x) (hS : St L w0 rows w) (hw : Region.wanted o (yielded ops a.tmps) = true) {g : Nat} (hx : a.eval x = .pointer (some ⟨g, 6, none⟩)) {r : Flt} {T' : Nat} (hm : RowAt g (Flt.cells r) T' rows) (h : wpList Tryz.prog ops Q rest (a.put o.dst (.int .i64 r.ncolors)) w) : wpList Tryz.prog ops Q (o :: rest) a w :=
  wpList_ld_cell ho hS hw hx hm scal3 (flt_at6 r) h
theorem flt_ld7 {L : World → Prop} {w0 w : World} {rows : List Row} {ops : Array Oper} {rest : List Oper} {o : Oper} {a : Act} {Q : Exit → Act → World → Prop} {x : Operand} (ho : o.op = .load 9 x) (hS : St L w0 rows w) (hw : Region.wanted o (yielded ops a.tmps) = true) {g : Nat} (hx : a.eval x = .pointer (some ⟨g, 7, none⟩)) {r : Flt} {T' : Nat} (hm : RowAt g (Flt.cells r) T' rows) (h : wpList Tryz.prog ops Q rest (a.put o.dst (.string r.sub)) w) : wpList Tryz.prog ops Q (o :: rest) a w :=
  wpList_ld_cell ho hS hw hx hm scal9 (flt_at7 r) h
theorem flt_ld8 {L : World → Prop} {w0 w : World} {rows : List Row} {ops : Array Oper} {rest : List Oper} {o : Oper} {a : Act} {Q : Exit → Act → World → Prop} {x : Operand} (ho : o.op = .load 3 x) (hS : St L w0 rows w) (hw : Region.wanted o (yielded ops a.tmps) = true) {g : Nat} (hx : a.eval x = .pointer (some ⟨g, 8, none⟩)) {r : Flt} {T' : Nat} (hm : RowAt g (Flt.cells r) T' rows) (h : wpList Tryz.prog ops Q rest (a.put o.dst (.int .i64 r.keys)) w) : wpList Tryz.prog ops Q (o :: rest) a w :=
  wpList_ld_cell ho hS hw hx hm scal3 (flt_at8 r) h
theorem flt_ld9 {L : World → Prop} {w0 w : World} {rows : List Row} {ops : Array Oper} {rest : List Oper} {o : Oper} {a : Act} {Q : Exit → Act → World → Prop} {x : Operand} (ho : o.op = .load 3 x) (hS : St L w0 rows w) (hw : Region.wanted o (yielded ops a.tmps) = true) {g : Nat} (hx : a.eval x = .pointer (some ⟨g, 9, none⟩)) {r : Flt} {T' : Nat} (hm : RowAt g (Flt.cells r) T' rows) (h : wpList Tryz.prog ops Q rest (a.put o.dst (.int .i64 r.tap)) w) : wpList Tryz.prog ops Q (o :: rest) a w :=
  wpList_ld_cell ho hS hw hx hm scal3 (flt_at9 r) h
theorem flt_ld10 {L : World → Prop} {w0 w : World} {rows : List Row} {ops : Array Oper} {rest : List Oper} {o : Oper} {a : Act} {Q : Exit → Act → World → Prop} {x : Operand} (ho : o.op = .load 3 x) (hS : St L w0 rows w) (hw : Region.wanted o (yielded ops a.tmps) = true) {g : Nat} (hx : a.eval x = .pointer (some ⟨g, 10, none⟩)) {r : Flt} {T' : Nat} (hm : RowAt g (Flt.cells r) T' rows) (h : wpList Tryz.prog ops Q rest (a.put o.dst (.int .i64 r.pk)) w) : wpList Tryz.prog ops Q (o :: rest) a w :=
  wpList_ld_cell ho hS hw hx hm scal3 (flt_at10 r) h
theorem flt_ld11 {L : World → Prop} {w0 w : World} {rows : List Row} {ops : Array Oper} {rest : List Oper} {o : Oper} {a : Act} {Q : Exit → Act → World → Prop} {x : Operand} (ho : o.op = .load 3 x) (hS : St L w0 rows w) (hw : Region.wanted o (yielded ops a.tmps) = true) {g : Nat} (hx : a.eval x = .pointer (some ⟨g, 11, none⟩)) {r : Flt} {T' : Nat} (hm : RowAt g (Flt.cells r) T' rows) (h : wpList Tryz.prog ops Q rest (a.put o.dst (.int .i64 r.pn)) w) : wpList Tryz.prog ops Q (o :: rest) a w :=
  wpList_ld_cell ho hS hw hx hm scal3 (flt_at11 r) h
theorem flt_ld12 {L : World → Prop} {w0 w : World} {rows : List Row} {ops : Array Oper} {rest : List Oper} {o : Oper} {a : Act} {Q : Exit → Act → World → Prop} {x : Operand} (ho : o.op = .load 3 x) (hS : St L w0 rows w) (hw : Region.wanted o (yielded ops a.tmps) = true) {g : Nat} (hx : a.eval x = .pointer (some ⟨g, 12, none⟩)) {r : Flt} {T' : Nat} (hm : RowAt g (Flt.cells r) T' rows) (h : wpList Tryz.prog ops Q rest (a.put o.dst (.int .i64 r.tk)) w) : wpList Tryz.prog ops Q (o :: rest) a w :=
  wpList_ld_cell ho hS hw hx hm scal3 (flt_at12 r) h
theorem flt_ld13 {L : World → Prop} {w0 w : World} {rows : List Row} {ops : Array Oper} {rest : List Oper} {o : Oper} {a : Act} {Q : Exit → Act → World → Prop} {x : Operand} (ho : o.op = .load 3 x) (hS : St L w0 rows w) (hw : Region.wanted o (yielded ops a.tmps) = true) {g : Nat} (hx : a.eval x = .pointer (some ⟨g, 13, none⟩)) {r : Flt} {T' : Nat} (hm : RowAt g (Flt.cells r) T' rows) (h : wpList Tryz.prog ops Q rest (a.put o.dst (.int .i64 r.tn)) w) : wpList Tryz.prog ops Q (o :: rest) a w :=
  wpList_ld_cell ho hS hw hx hm scal3 (flt_at13 r) h
theorem flt_ld14 {L : World → Prop} {w0 w : World} {rows : List Row} {ops : Array Oper} {rest : List Oper} {o : Oper} {a : Act} {Q : Exit → Act → World → Prop} {x : Operand} (ho : o.op = .load 3 x) (hS : St L w0 rows w) (hw : Region.wanted o (yielded ops a.tmps) = true) {g : Nat} (hx : a.eval x = .pointer (some ⟨g, 14, none⟩)) {r : Flt} {T' : Nat} (hm : RowAt g (Flt.cells r) T' rows) (h : wpList Tryz.prog ops Q rest (a.put o.dst (.int .i64 r.vk)) w) : wpList Tryz.prog ops Q (o :: rest) a w :=
  wpList_ld_cell ho hS hw hx hm scal3 (flt_at14 r) h
theorem flt_ld15 {L : World → Prop} {w0 w : World} {rows : List Row} {ops : Array Oper} {rest : List Oper} {o : Oper} {a : Act} {Q : Exit → Act → World → Prop} {x : Operand} (ho : o.op = .load 3 x) (hS : St L w0 rows w) (hw : Region.wanted o (yielded ops a.tmps) = true) {g : Nat} (hx : a.eval x = .pointer (some ⟨g, 15, none⟩)) {r : Flt} {T' : Nat} (hm : RowAt g (Flt.cells r) T' rows) (h : wpList Tryz.prog ops Q rest (a.put o.dst (.int .i64 r.vn)) w) : wpList Tryz.prog ops Q (o :: rest) a w :=
  wpList_ld_cell ho hS hw hx hm scal3 (flt_at15 r) h
theorem flt_ldw {L : World → Prop} {w0 w : World} {rows : List Row} {ops : Array Oper} {rest : List Oper} {o : Oper} {a : Act} {Q : Exit → Act → World → Prop} {x : Operand} (ho : o.op = .load 25 x) (hS : St L w0 rows w) (hw : Region.wanted o (yielded ops a.tmps) = true) {g : Nat} (hx : a.eval x = .pointer (some ⟨g, 0, none⟩)) {r : Flt} {T' : Nat} (hm : RowAt g (Flt.cells r) T' rows) (h : wpList Tryz.prog ops Q rest (a.put o.dst (.agg (Flt.cells r))) w) : wpList Tryz.prog ops Q (o :: rest) a w :=
  wpList_ld_row 25 ho hS hw hx hm Tryz.underlying25 rfl flt_info h
theorem flt_tlw {L : World → Prop} {w0 : World} {rows : List Row} {ops : Array Oper} {o o' : Oper} {rest : List Oper} {a : Act} {Q : Exit → Act → World → Prop} {x : Operand} (ho : o.op = .load 25 x) (hw : Region.wanted o (yielded ops a.tmps) = true) {g : Nat} (hx : a.eval x = .pointer (some ⟨g, 0, none⟩)) {r : Flt} {T' : Nat} (hm : RowAt g (Flt.cells r) T' rows) (hq : ∀ c a w, Q (.panic c) (a.put o.dst (.agg (Flt.cells r))) w → Q (.panic c) a w) (h : RunT Tryz.prog ops Q (St L w0 rows) (o' :: rest) (a.put o.dst (.agg (Flt.cells r)))) : RunT Tryz.prog ops Q (St L w0 rows) (o :: o' :: rest) a :=
  runT_val hw hq (fun w hS => run_ld_part hS ho hx hm (fun j v hj => by simpa using hj) Tryz.underlying25 rfl flt_info) h
theorem flt_tl0 {L : World → Prop} {w0 : World} {rows : List Row} {ops : Array Oper} {o o' : Oper} {rest : List Oper} {a : Act} {Q : Exit → Act → World → Prop} {x : Operand} (ho : o.op = .load 3 x) (hw : Region.wanted o (yielded ops a.tmps) = true) {g : Nat} (hx : a.eval x = .pointer (some ⟨g, 0, none⟩)) {r : Flt} {T' : Nat} (hm : RowAt g (Flt.cells r) T' rows) (hq : ∀ c a w, Q (.panic c) (a.put o.dst (.int .i64 r.zone)) w → Q (.panic c) a w) (h : RunT Tryz.prog ops Q (St L w0 rows) (o' :: rest) (a.put o.dst (.int .i64 r.zone))) : RunT Tryz.prog ops Q (St L w0 rows) (o :: o' :: rest) a :=
  runT_val hw hq (fun w hS => run_ld_cell hS ho hx hm scal3 (flt_at0 r)) h
theorem flt_tl1 {L : World → Prop} {w0 : World} {rows : List Row} {ops : Array Oper} {o o' : Oper} {rest : List Oper} {a : Act} {Q : Exit → Act → World → Prop} {x : Operand} (ho : o.op = .load 3 x) (hw : Region.wanted o (yielded ops a.tmps) = true) {g : Nat} (hx : a.eval x = .pointer (some ⟨g, 1, none⟩)) {r : Flt} {T' : Nat} (hm : RowAt g (Flt.cells r) T' rows) (hq : ∀ c a w, Q (.panic c) (a.put o.dst (.int .i64 r.who)) w → Q (.panic c) a w) (h : RunT Tryz.prog ops Q (St L w0 rows) (o' :: rest) (a.put o.dst (.int .i64 r.who))) : RunT Tryz.prog ops Q (St L w0 rows) (o :: o' :: rest) a :=
  runT_val hw hq (fun w hS => run_ld_cell hS ho hx hm scal3 (flt_at1 r)) h
theorem flt_tl2 {L : World → Prop} {w0 : World} {rows : List Row} {ops : Array Oper} {o o' : Oper} {rest : List Oper} {a : Act} {Q : Exit → Act → World → Prop} {x : Operand} (ho : o.op = .load 3 x) (hw : Region.wanted o (yielded ops a.tmps) = true) {g : Nat} (hx : a.eval x = .pointer (some ⟨g, 2, none⟩)) {r : Flt} {T' : Nat} (hm : RowAt g (Flt.cells r) T' rows) (hq : ∀ c a w, Q (.panic c) (a.put o.dst (.int .i64 r.self)) w → Q (.panic c) a w) (h : RunT Tryz.prog ops Q (St L w0 rows) (o' :: rest) (a.put o.dst (.int .i64 r.self))) : RunT Tryz.prog ops Q (St L w0 rows) (o :: o' :: rest) a :=
  runT_val hw hq (fun w hS => run_ld_cell hS ho hx hm scal3 (flt_at2 r)) h
theorem flt_tl3 {L : World → Prop} {w0 : World} {rows : List Row} {ops : Array Oper} {o o' : Oper} {rest : List Oper} {a : Act} {Q : Exit → Act → World → Prop} {x : Operand} (ho : o.op = .load 3 x) (hw : Region.wanted o (yielded ops a.tmps) = true) {g : Nat} (hx : a.eval x = .pointer (some ⟨g, 3, none⟩)) {r : Flt} {T' : Nat} (hm : RowAt g (Flt.cells r) T' rows) (hq : ∀ c a w, Q (.panic c) (a.put o.dst (.int .i64 r.types)) w → Q (.panic c) a w) (h : RunT Tryz.prog ops Q (St L w0 rows) (o' :: rest) (a.put o.dst (.int .i64 r.types))) : RunT Tryz.prog ops Q (St L w0 rows) (o :: o' :: rest) a :=
  runT_val hw hq (fun w hS => run_ld_cell hS ho hx hm scal3 (flt_at3 r)) h
theorem flt_tl4 {L : World → Prop} {w0 : World} {rows : List Row} {ops : Array Oper} {o o' : Oper} {rest : List Oper} {a : Act} {Q : Exit → Act → World → Prop} {x : Operand} (ho : o.op = .load 3 x) (hw : Region.wanted o (yielded ops a.tmps) = true) {g : Nat} (hx : a.eval x = .pointer (some ⟨g, 4, none⟩)) {r : Flt} {T' : Nat} (hm : RowAt g (Flt.cells r) T' rows) (hq : ∀ c a w, Q (.panic c) (a.put o.dst (.int .i64 r.ntypes)) w → Q (.panic c) a w) (h : RunT Tryz.prog ops Q (St L w0 rows) (o' :: rest) (a.put o.dst (.int .i64 r.ntypes))) : RunT Tryz.prog ops Q (St L w0 rows) (o :: o' :: rest) a :=
  runT_val hw hq (fun w hS => run_ld_cell hS ho hx hm scal3 (flt_at4 r)) h
theorem flt_tl5 {L : World → Prop} {w0 : World} {rows : List Row} {ops : Array Oper} {o o' : Oper} {rest : List Oper} {a : Act} {Q : Exit → Act → World → Prop} {x : Operand} (ho : o.op = .load 3 x) (hw : Region.wanted o (yielded ops a.tmps) = true) {g : Nat} (hx : a.eval x = .pointer (some ⟨g, 5, none⟩)) {r : Flt} {T' : Nat} (hm : RowAt g (Flt.cells r) T' rows) (hq : ∀ c a w, Q (.panic c) (a.put o.dst (.int .i64 r.colors)) w → Q (.panic c) a w) (h : RunT Tryz.prog ops Q (St L w0 rows) (o' :: rest) (a.put o.dst (.int .i64 r.colors))) : RunT Tryz.prog ops Q (St L w0 rows) (o :: o' :: rest) a :=
  runT_val hw hq (fun w hS => run_ld_cell hS ho hx hm scal3 (flt_at5 r)) h
theorem flt_tl6 {L : World → Prop} {w0 : World} {rows : List Row} {ops : Array Oper} {o o' : Oper} {rest : List Oper} {a : Act} {Q : Exit → Act → World → Prop} {x : Operand} (ho : o.op = .load 3 x) (hw : Region.wanted o (yielded ops a.tmps) = true) {g : Nat} (hx : a.eval x = .pointer (some ⟨g, 6, none⟩)) {r : Flt} {T' : Nat} (hm : RowAt g (Flt.cells r) T' rows) (hq : ∀ c a w, Q (.panic c) (a.put o.dst (.int .i64 r.ncolors)) w → Q (.panic c) a w) (h : RunT Tryz.prog ops Q (St L w0 rows) (o' :: rest) (a.put o.dst (.int .i64 r.ncolors))) : RunT Tryz.prog ops Q (St L w0 rows) (o :: o' :: rest) a :=
  runT_val hw hq (fun w hS => run_ld_cell hS ho hx hm scal3 (flt_at6 r)) h
theorem flt_tl7 {L : World → Prop} {w0 : World} {rows : List Row} {ops : Array Oper} {o o' : Oper} {rest : List Oper} {a : Act} {Q : Exit → Act → World → Prop} {x : Operand} (ho : o.op = .load 9 x) (hw : Region.wanted o (yielded ops a.tmps) = true) {g : Nat} (hx : a.eval x = .pointer (some ⟨g, 7, none⟩)) {r : Flt} {T' : Nat} (hm : RowAt g (Flt.cells r) T' rows) (hq : ∀ c a w, Q (.panic c) (a.put o.dst (.string r.sub)) w → Q (.panic c) a w) (h : RunT Tryz.prog ops Q (St L w0 rows) (o' :: rest) (a.put o.dst (.string r.sub))) : RunT Tryz.prog ops Q (St L w0 rows) (o :: o' :: rest) a :=
  runT_val hw hq (fun w hS => run_ld_cell hS ho hx hm scal9 (flt_at7 r)) h
theorem flt_tl8 {L : World → Prop} {w0 : World} {rows : List Row} {ops : Array Oper} {o o' : Oper} {rest : List Oper} {a : Act} {Q : Exit → Act → World → Prop} {x : Operand} (ho : o.op = .load 3 x) (hw : Region.wanted o (yielded ops a.tmps) = true) {g : Nat} (hx : a.eval x = .pointer (some ⟨g, 8, none⟩)) {r : Flt} {T' : Nat} (hm : RowAt g (Flt.cells r) T' rows) (hq : ∀ c a w, Q (.panic c) (a.put o.dst (.int .i64 r.keys)) w → Q (.panic c) a w) (h : RunT Tryz.prog ops Q (St L w0 rows) (o' :: rest) (a.put o.dst (.int .i64 r.keys))) : RunT Tryz.prog ops Q (St L w0 rows) (o :: o' :: rest) a :=
  runT_val hw hq (fun w hS => run_ld_cell hS ho hx hm scal3 (flt_at8 r)) h
theorem flt_tl9 {L : World → Prop} {w0 : World} {rows : List Row} {ops : Array Oper} {o o' : Oper} {rest : List Oper} {a : Act} {Q : Exit → Act → World → Prop} {x : Operand} (ho : o.op = .load 3 x) (hw : Region.wanted o (yielded ops a.tmps) = true) {g : Nat} (hx : a.eval x = .pointer (some ⟨g, 9, none⟩)) {r : Flt} {T' : Nat} (hm : RowAt g (Flt.cells r) T' rows) (hq : ∀ c a w, Q (.panic c) (a.put o.dst (.int .i64 r.tap)) w → Q (.panic c) a w) (h : RunT Tryz.prog ops Q (St L w0 rows) (o' :: rest) (a.put o.dst (.int .i64 r.tap))) : RunT Tryz.prog ops Q (St L w0 rows) (o :: o' :: rest) a :=
  runT_val hw hq (fun w hS => run_ld_cell hS ho hx hm scal3 (flt_at9 r)) h
theorem flt_tl10 {L : World → Prop} {w0 : World} {rows : List Row} {ops : Array Oper} {o o' : Oper} {rest : List Oper} {a : Act} {Q : Exit → Act → World → Prop} {x : Operand} (ho : o.op = .load 3 x) (hw : Region.wanted o (yielded ops a.tmps) = true) {g : Nat} (hx : a.eval x = .pointer (some ⟨g, 10, none⟩)) {r : Flt} {T' : Nat} (hm : RowAt g (Flt.cells r) T' rows) (hq : ∀ c a w, Q (.panic c) (a.put o.dst (.int .i64 r.pk)) w → Q (.panic c) a w) (h : RunT Tryz.prog ops Q (St L w0 rows) (o' :: rest) (a.put o.dst (.int .i64 r.pk))) : RunT Tryz.prog ops Q (St L w0 rows) (o :: o' :: rest) a :=
  runT_val hw hq (fun w hS => run_ld_cell hS ho hx hm scal3 (flt_at10 r)) h
theorem flt_tl11 {L : World → Prop} {w0 : World} {rows : List Row} {ops : Array Oper} {o o' : Oper} {rest : List Oper} {a : Act} {Q : Exit → Act → World → Prop} {x : Operand} (ho : o.op = .load 3 x) (hw : Region.wanted o (yielded ops a.tmps) = true) {g : Nat} (hx : a.eval x = .pointer (some ⟨g, 11, none⟩)) {r : Flt} {T' : Nat} (hm : RowAt g (Flt.cells r) T' rows) (hq : ∀ c a w, Q (.panic c) (a.put o.dst (.int .i64 r.pn)) w → Q (.panic c) a w) (h : RunT Tryz.prog ops Q (St L w0 rows) (o' :: rest) (a.put o.dst (.int .i64 r.pn))) : RunT Tryz.prog ops Q (St L w0 rows) (o :: o' :: rest) a :=
  runT_val hw hq (fun w hS => run_ld_cell hS ho hx hm scal3 (flt_at11 r)) h
theorem flt_tl12 {L : World → Prop} {w0 : World} {rows : List Row} {ops : Array Oper} {o o' : Oper} {rest : List Oper} {a : Act} {Q : Exit → Act → World → Prop} {x : Operand} (ho : o.op = .load 3 x) (hw : Region.wanted o (yielded ops a.tmps) = true) {g : Nat} (hx : a.eval x = .pointer (some ⟨g, 12, none⟩)) {r : Flt} {T' : Nat} (hm : RowAt g (Flt.cells r) T' rows) (hq : ∀ c a w, Q (.panic c) (a.put o.dst (.int .i64 r.tk)) w → Q (.panic c) a w) (h : RunT Tryz.prog ops Q (St L w0 rows) (o' :: rest) (a.put o.dst (.int .i64 r.tk))) : RunT Tryz.prog ops Q (St L w0 rows) (o :: o' :: rest) a :=
  runT_val hw hq (fun w hS => run_ld_cell hS ho hx hm scal3 (flt_at12 r)) h
theorem flt_tl13 {L : World → Prop} {w0 : World} {rows : List Row} {ops : Array Oper} {o o' : Oper} {rest : List Oper} {a : Act} {Q : Exit → Act → World → Prop} {x : Operand} (ho : o.op = .load 3 x) (hw : Region.wanted o (yielded ops a.tmps) = true) {g : Nat} (hx : a.eval x = .pointer (some ⟨g, 13, none⟩)) {r : Flt} {T' : Nat} (hm : RowAt g (Flt.cells r) T' rows) (hq : ∀ c a w, Q (.panic c) (a.put o.dst (.int .i64 r.tn)) w → Q (.panic c) a w) (h : RunT Tryz.prog ops Q (St L w0 rows) (o' :: rest) (a.put o.dst (.int .i64 r.tn))) : RunT Tryz.prog ops Q (St L w0 rows) (o :: o' :: rest) a :=
  runT_val hw hq (fun w hS => run_ld_cell hS ho hx hm scal3 (flt_at13 r)) h
theorem flt_tl14 {L : World → Prop} {w0 : World} {rows : List Row} {ops : Array Oper} {o o' : Oper} {rest : List Oper} {a : Act} {Q : Exit → Act → World → Prop} {x : Operand} (ho : o.op = .load 3 x) (hw : Region.wanted o (yielded ops a.tmps) = true) {g : Nat} (hx : a.eval x = .pointer (some ⟨g, 14, none⟩)) {r : Flt} {T' : Nat} (hm : RowAt g (Flt.cells r) T' rows) (hq : ∀ c a w, Q (.panic c) (a.put o.dst (.int .i64 r.vk)) w → Q (.panic c) a w) (h : RunT Tryz.prog ops Q (St L w0 rows) (o' :: rest) (a.put o.dst (.int .i64 r.vk))) : RunT Tryz.prog ops Q (St L w0 rows) (o :: o' :: rest) a :=
  runT_val hw hq (fun w hS => run_ld_cell hS ho hx hm scal3 (flt_at14 r)) h
theorem flt_tl15 {L : World → Prop} {w0 : World} {rows : List Row} {ops : Array Oper} {o o' : Oper} {rest : List Oper} {a : Act} {Q : Exit → Act → World → Prop} {x : Operand} (ho : o.op = .load 3 x) (hw : Region.wanted o (yielded ops a.tmps) = true) {g : Nat} (hx : a.eval x = .pointer (some ⟨g, 15, none⟩)) {r : Flt} {T' : Nat} (hm : RowAt g (Flt.cells r) T' rows) (hq : ∀ c a w, Q (.panic c) (a.put o.dst (.int .i64 r.vn)) w → Q (.panic c) a w) (h : RunT Tryz.prog ops Q (St L w0 rows) (o' :: rest) (a.put o.dst (.int .i64 r.vn))) : RunT Tryz.prog ops Q (St L w0 rows) (o :: o' :: rest) a :=
  runT_val hw hq (fun w hS => run_ld_cell hS ho hx hm scal3 (flt_at15 r)) h
theorem flt_rl0 {L : World → Prop} {w0 : World} {rows : List Row} {ops : Array Oper} {rest : List Oper} {o : Oper} {a : Act} {Q : Exit → Act → World → Prop} {x : Operand} (ho : o.op = .load 3 x) (hw : Region.wanted o (yielded ops a.tmps) = true) {g : Nat} (hx : a.eval x = .pointer (some ⟨g, 0, none⟩)) {r : Flt} {T' : Nat} (hm : RowAt g (Flt.cells r) T' rows) (hq : ∀ c a w, Q (.panic c) (a.put o.dst (.int .i64 r.zone)) w → Q (.panic c) a w) (h : RunS Tryz.prog ops Q (St L w0 rows) rest (a.put o.dst (.int .i64 r.zone))) : RunS Tryz.prog ops Q (St L w0 rows) (o :: rest) a :=
  runS_val hw hq (fun w hS => run_ld_cell hS ho hx hm scal3 (flt_at0 r)) h
theorem flt_rl1 {L : World → Prop} {w0 : World} {rows : List Row} {ops : Array Oper} {rest : List Oper} {o : Oper} {a : Act} {Q : Exit → Act → World → Prop} {x : Operand} (ho : o.op = .load 3 x) (hw : Region.wanted o (yielded ops a.tmps) = true) {g : Nat} (hx : a.eval x = .pointer (some ⟨g, 1, none⟩)) {r : Flt} {T' : Nat} (hm : RowAt g (Flt.cells r) T' rows) (hq : ∀ c a w, Q (.panic c) (a.put o.dst (.int .i64 r.who)) w → Q (.panic c) a w) (h : RunS Tryz.prog ops Q (St L w0 rows) rest (a.put o.dst (.int .i64 r.who))) : RunS Tryz.prog ops Q (St L w0 rows) (o :: rest) a :=
  runS_val hw hq (fun w hS => run_ld_cell hS ho hx hm scal3 (flt_at1 r)) h
theorem flt_rl2 {L : World → Prop} {w0 : World} {rows : List Row} {ops : Array Oper} {rest : List Oper} {o : Oper} {a : Act} {Q : Exit → Act → World → Prop} {x : Operand} (ho : o.op = .load 3 x) (hw : Region.wanted o (yielded ops a.tmps) = true) {g : Nat} (hx : a.eval x = .pointer (some ⟨g, 2, none⟩)) {r : Flt} {T' : Nat} (hm : RowAt g (Flt.cells r) T' rows) (hq : ∀ c a w, Q (.panic c) (a.put o.dst (.int .i64 r.self)) w → Q (.panic c) a w) (h : RunS Tryz.prog ops Q (St L w0 rows) rest (a.put o.dst (.int .i64 r.self))) : RunS Tryz.prog ops Q (St L w0 rows) (o :: rest) a :=
  runS_val hw hq (fun w hS => run_ld_cell hS ho hx hm scal3 (flt_at2 r)) h
theorem flt_rl3 {L : World → Prop} {w0 : World} {rows : List Row} {ops : Array Oper} {rest : List Oper} {o : Oper} {a : Act} {Q : Exit → Act → World → Prop} {x : Operand} (ho : o.op = .load 3 x) (hw : Region.wanted o (yielded ops a.tmps) = true) {g : Nat} (hx : a.eval x = .pointer (some ⟨g, 3, none⟩)) {r : Flt} {T' : Nat} (hm : RowAt g (Flt.cells r) T' rows) (hq : ∀ c a w, Q (.panic c) (a.put o.dst (.int .i64 r.types)) w → Q (.panic c) a w) (h : RunS Tryz.prog ops Q (St L w0 rows) rest (a.put o.dst (.int .i64 r.types))) : RunS Tryz.prog ops Q (St L w0 rows) (o :: rest) a :=
  runS_val hw hq (fun w hS => run_ld_cell hS ho hx hm scal3 (flt_at3 r)) h
theorem flt_rl4 {L : World → Prop} {w0 : World} {rows : List Row} {ops : Array Oper} {rest : List Oper} {o : Oper} {a : Act} {Q : Exit → Act → World → Prop} {x : Operand} (ho : o.op = .load 3 x) (hw : Region.wanted o (yielded ops a.tmps) = true) {g : Nat} (hx : a.eval x = .pointer (some ⟨g, 4, none⟩)) {r : Flt} {T' : Nat} (hm : RowAt g (Flt.cells r) T' rows) (hq : ∀ c a w, Q (.panic c) (a.put o.dst (.int .i64 r.ntypes)) w → Q (.panic c) a w) (h : RunS Tryz.prog ops Q (St L w0 rows) rest (a.put o.dst (.int .i64 r.ntypes))) : RunS Tryz.prog ops Q (St L w0 rows) (o :: rest) a :=
  runS_val hw hq (fun w hS => run_ld_cell hS ho hx hm scal3 (flt_at4 r)) h
theorem flt_rl5 {L : World → Prop} {w0 : World} {rows : List Row} {ops : Array Oper} {rest : List Oper} {o : Oper} {a : Act} {Q : Exit → Act → World → Prop} {x : Operand} (ho : o.op = .load 3 x) (hw : Region.wanted o (yielded ops a.tmps) = true) {g : Nat} (hx : a.eval x = .pointer (some ⟨g, 5, none⟩)) {r : Flt} {T' : Nat} (hm : RowAt g (Flt.cells r) T' rows) (hq : ∀ c a w, Q (.panic c) (a.put o.dst (.int .i64 r.colors)) w → Q (.panic c) a w) (h : RunS Tryz.prog ops Q (St L w0 rows) rest (a.put o.dst (.int .i64 r.colors))) : RunS Tryz.prog ops Q (St L w0 rows) (o :: rest) a :=
  runS_val hw hq (fun w hS => run_ld_cell hS ho hx hm scal3 (flt_at5 r)) h
theorem flt_rl6 {L : World → Prop} {w0 : World} {rows : List Row} {ops : Array Oper} {rest : List Oper} {o : Oper} {a : Act} {Q : Exit → Act → World → Prop} {x : Operand} (ho : o.op = .load 3 x) (hw : Region.wanted o (yielded ops a.tmps) = true) {g : Nat} (hx : a.eval x = .pointer (some ⟨g, 6, none⟩)) {r : Flt} {T' : Nat} (hm : RowAt g (Flt.cells r) T' rows) (hq : ∀ c a w, Q (.panic c) (a.put o.dst (.int .i64 r.ncolors)) w → Q (.panic c) a w) (h : RunS Tryz.prog ops Q (St L w0 rows) rest (a.put o.dst (.int .i64 r.ncolors))) : RunS Tryz.prog ops Q (St L w0 rows) (o :: rest) a :=
  runS_val hw hq (fun w hS => run_ld_cell hS ho hx hm scal3 (flt_at6 r)) h
theorem flt_rl7 {L : World → Prop} {w0 : World} {rows : List Row} {ops : Array Oper} {rest : List Oper} {o : Oper} {a : Act} {Q : Exit → Act → World → Prop} {x : Operand} (ho : o.op = .load 9 x) (hw : Region.wanted o (yielded ops a.tmps) = true) {g : Nat} (hx : a.eval x = .pointer (some ⟨g, 7, none⟩)) {r : Flt} {T' : Nat} (hm : RowAt g (Flt.cells r) T' rows) (hq : ∀ c a w, Q (.panic c) (a.put o.dst (.string r.sub)) w → Q (.panic c) a w) (h : RunS Tryz.prog ops Q (St L w0 rows) rest (a.put o.dst (.string r.sub))) : RunS Tryz.prog ops Q (St L w0 rows) (o :: rest) a :=
  runS_val hw hq (fun w hS => run_ld_cell hS ho hx hm scal9 (flt_at7 r)) h
theorem flt_rl8 {L : World → Prop} {w0 : World} {rows : List Row} {ops : Array Oper} {rest : List Oper} {o : Oper} {a : Act} {Q : Exit → Act → World → Prop} {x : Operand} (ho : o.op = .load 3 x) (hw : Region.wanted o (yielded ops a.tmps) = true) {g : Nat} (hx : a.eval x = .pointer (some ⟨g, 8, none⟩)) {r : Flt} {T' : Nat} (hm : RowAt g (Flt.cells r) T' rows) (hq : ∀ c a w, Q (.panic c) (a.put o.dst (.int .i64 r.keys)) w → Q (.panic c) a w) (h : RunS Tryz.prog ops Q (St L w0 rows) rest (a.put o.dst (.int .i64 r.keys))) : RunS Tryz.prog ops Q (St L w0 rows) (o :: rest) a :=
  runS_val hw hq (fun w hS => run_ld_cell hS ho hx hm scal3 (flt_at8 r)) h
theorem flt_rl9 {L : World → Prop} {w0 : World} {rows : List Row} {ops : Array Oper} {rest : List Oper} {o : Oper} {a : Act} {Q : Exit → Act → World → Prop} {x : Operand} (ho : o.op = .load 3 x) (hw : Region.wanted o (yielded ops a.tmps) = true) {g : Nat} (hx : a.eval x = .pointer (some ⟨g, 9, none⟩)) {r : Flt} {T' : Nat} (hm : RowAt g (Flt.cells r) T' rows) (hq : ∀ c a w, Q (.panic c) (a.put o.dst (.int .i64 r.tap)) w → Q (.panic c) a w) (h : RunS Tryz.prog ops Q (St L w0 rows) rest (a.put o.dst (.int .i64 r.tap))) : RunS Tryz.prog ops Q (St L w0 rows) (o :: rest) a :=
  runS_val hw hq (fun w hS => run_ld_cell hS ho hx hm scal3 (flt_at9 r)) h
theorem flt_rl10 {L : World → Prop} {w0 : World} {rows : List Row} {ops : Array Oper} {rest : List Oper} {o : Oper} {a : Act} {Q : Exit → Act → World → Prop} {x : Operand} (ho : o.op = .load 3 x) (hw : Region.wanted o (yielded ops a.tmps) = true) {g : Nat} (hx : a.eval x = .pointer (some ⟨g, 10, none⟩)) {r : Flt} {T' : Nat} (hm : RowAt g (Flt.cells r) T' rows) (hq : ∀ c a w, Q (.panic c) (a.put o.dst (.int .i64 r.pk)) w → Q (.panic c) a w) (h : RunS Tryz.prog ops Q (St L w0 rows) rest (a.put o.dst (.int .i64 r.pk))) : RunS Tryz.prog ops Q (St L w0 rows) (o :: rest) a :=
  runS_val hw hq (fun w hS => run_ld_cell hS ho hx hm scal3 (flt_at10 r)) h
theorem flt_rl11 {L : World → Prop} {w0 : World} {rows : List Row} {ops : Array Oper} {rest : List Oper} {o : Oper} {a : Act} {Q : Exit → Act → World → Prop} {x : Operand} (ho : o.op = .load 3 x) (hw : Region.wanted o (yielded ops a.tmps) = true) {g : Nat} (hx : a.eval x = .pointer (some ⟨g, 11, none⟩)) {r : Flt} {T' : Nat} (hm : RowAt g (Flt.cells r) T' rows) (hq : ∀ c a w, Q (.panic c) (a.put o.dst (.int .i64 r.pn)) w → Q (.panic c) a w) (h : RunS Tryz.prog ops Q (St L w0 rows) rest (a.put o.dst (.int .i64 r.pn))) : RunS Tryz.prog ops Q (St L w0 rows) (o :: rest) a :=
  runS_val hw hq (fun w hS => run_ld_cell hS ho hx hm scal3 (flt_at11 r)) h
theorem flt_rl12 {L : World → Prop} {w0 : World} {rows : List Row} {ops : Array Oper} {rest : List Oper} {o : Oper} {a : Act} {Q : Exit → Act → World → Prop} {x : Operand} (ho : o.op = .load 3 x) (hw : Region.wanted o (yielded ops a.tmps) = true) {g : Nat} (hx : a.eval x = .pointer (some ⟨g, 12, none⟩)) {r : Flt} {T' : Nat} (hm : RowAt g (Flt.cells r) T' rows) (hq : ∀ c a w, Q (.panic c) (a.put o.dst (.int .i64 r.tk)) w → Q (.panic c) a w) (h : RunS Tryz.prog ops Q (St L w0 rows) rest (a.put o.dst (.int .i64 r.tk))) : RunS Tryz.prog ops Q (St L w0 rows) (o :: rest) a :=
  runS_val hw hq (fun w hS => run_ld_cell hS ho hx hm scal3 (flt_at12 r)) h
theorem flt_rl13 {L : World → Prop} {w0 : World} {rows : List Row} {ops : Array Oper} {rest : List Oper} {o : Oper} {a : Act} {Q : Exit → Act → World → Prop} {x : Operand} (ho : o.op = .load 3 x) (hw : Region.wanted o (yielded ops a.tmps) = true) {g : Nat} (hx : a.eval x = .pointer (some ⟨g, 13, none⟩)) {r : Flt} {T' : Nat} (hm : RowAt g (Flt.cells r) T' rows) (hq : ∀ c a w, Q (.panic c) (a.put o.dst (.int .i64 r.tn)) w → Q (.panic c) a w) (h : RunS Tryz.prog ops Q (St L w0 rows) rest (a.put o.dst (.int .i64 r.tn))) : RunS Tryz.prog ops Q (St L w0 rows) (o :: rest) a :=
  runS_val hw hq (fun w hS => run_ld_cell hS ho hx hm scal3 (flt_at13 r)) h
theorem flt_rl14 {L : World → Prop} {w0 : World} {rows : List Row} {ops : Array Oper} {rest : List Oper} {o : Oper} {a : Act} {Q : Exit → Act → World → Prop} {x : Operand} (ho : o.op = .load 3 x) (hw : Region.wanted o (yielded ops a.tmps) = true) {g : Nat} (hx : a.eval x = .pointer (some ⟨g, 14, none⟩)) {r : Flt} {T' : Nat} (hm : RowAt g (Flt.cells r) T' rows) (hq : ∀ c a w, Q (.panic c) (a.put o.dst (.int .i64 r.vk)) w → Q (.panic c) a w) (h : RunS Tryz.prog ops Q (St L w0 rows) rest (a.put o.dst (.int .i64 r.vk))) : RunS Tryz.prog ops Q (St L w0 rows) (o :: rest) a :=
  runS_val hw hq (fun w hS => run_ld_cell hS ho hx hm scal3 (flt_at14 r)) h
theorem flt_rl15 {L : World → Prop} {w0 : World} {rows : List Row} {ops : Array Oper} {rest : List Oper} {o : Oper} {a : Act} {Q : Exit → Act → World → Prop} {x : Operand} (ho : o.op = .load 3 x) (hw : Region.wanted o (yielded ops a.tmps) = true) {g : Nat} (hx : a.eval x = .pointer (some ⟨g, 15, none⟩)) {r : Flt} {T' : Nat} (hm : RowAt g (Flt.cells r) T' rows) (hq : ∀ c a w, Q (.panic c) (a.put o.dst (.int .i64 r.vn)) w → Q (.panic c) a w) (h : RunS Tryz.prog ops Q (St L w0 rows) rest (a.put o.dst (.int .i64 r.vn))) : RunS Tryz.prog ops Q (St L w0 rows) (o :: rest) a :=
  runS_val hw hq (fun w hS => run_ld_cell hS ho hx hm scal3 (flt_at15 r)) h
theorem flt_rlw {L : World → Prop} {w0 : World} {rows : List Row} {ops : Array Oper} {rest : List Oper} {o : Oper} {a : Act} {Q : Exit → Act → World → Prop} {x : Operand} (ho : o.op = .load 25 x) (hw : Region.wanted o (yielded ops a.tmps) = true) {g : Nat} (hx : a.eval x = .pointer (some ⟨g, 0, none⟩)) {r : Flt} {T' : Nat} (hm : RowAt g (Flt.cells r) T' rows) (hq : ∀ c a w, Q (.panic c) (a.put o.dst (.agg (Flt.cells r))) w → Q (.panic c) a w) (h : RunS Tryz.prog ops Q (St L w0 rows) rest (a.put o.dst (.agg (Flt.cells r)))) : RunS Tryz.prog ops Q (St L w0 rows) (o :: rest) a :=
  runS_val hw hq (fun w hS => run_ld_part hS ho hx hm (fun j v hj => by simpa using hj) Tryz.underlying25 rfl flt_info) h
theorem flt_res2 {L : World → Prop} {w0 w : World} {rows : List Row} {a : Act} (hS : St L w0 rows w) {fn : Func} {p q : Tmp} (hf : fn.results = #[.cell p 25, .tmp q]) {g : Nat} (hp : a.tmps.getD p undef = .pointer (some ⟨g, 0, none⟩)) {r : Flt} {T' : Nat} (hm : RowAt g (Flt.cells r) T' rows) {v : Value} (hq : a.tmps.getD q undef = v) (hdef : a.defers = []) {R : Ending → World → Prop} (hR : Below w0.heap.size w0 w → R (.returned (.tuple #[.agg (Flt.cells r), v])) w) : bodyPost Tryz.prog fn R .ret a w :=
  bodyPost_ret ((results_row_tmp hf a.tmps w g T' (Flt.cells r) (0, 0) _ hp (hS.row hm) Tryz.underlying25 rfl flt_info).trans (by rw [hq])) hdef (hR hS.below)
theorem flt_res {L : World → Prop} {w0 w : World} {rows : List Row} {a : Act} (hS : St L w0 rows w) {fn : Func} {p : Tmp} (hf : fn.results = #[.cell p 25]) {g : Nat} (hp : a.tmps.getD p undef = .pointer (some ⟨g, 0, none⟩)) {r : Flt} {T' : Nat} (hm : RowAt g (Flt.cells r) T' rows) (hdef : a.defers = []) {R : Ending → World → Prop} (hR : Below w0.heap.size w0 w → R (.returned (.agg (Flt.cells r))) w) : bodyPost Tryz.prog fn R .ret a w :=
  St.result hS hf hp hm Tryz.underlying25 rfl flt_info hdef hR
theorem fltIs_c (f : Flt) (w : World) (hl : Laid w) : Calls Tryz.prog 31 #[.agg f.cells] w fun e w' => e = .returned (.bool (fltIs f)) ∧ Below w.heap.size w w' :=
  fltIs_any f.zone f.who f.self f.types f.ntypes f.colors f.ncolors f.sub f.keys f.tap f.pk f.pn f.tk f.tn f.vk f.vn w hl _ (Lib.hid rfl)
theorem keepsL : ∀ w1 w2 : World, Laid w1 → Below w1.heap.size w1 w2 → Laid w2 := fun _ _ h hb => h.below hb
end Go.Proofs.YtakgfbcmkhcdkaaGreatDoor
namespace Go.Proofs.YtakgfbcmkhcdkaaGreatDoor
set_option linter.all false
open Go.ChangeShapes Go.WideShapes Go.RowKit
section
variable {L : World → Prop} {w0 w : World} {rows : List Row} {ops : Array Oper} {rest : List Oper} {o : Oper} {a : Act} {Q : Exit → Act → World → Prop}
theorem run_cat {x y : Operand} {ty : TypeId} (ho : o.op = .binOp .add 9 x y ty) {p q : Str} (hx : a.eval x = .string (B p)) (hy : a.eval y = .string (B q)) (hb : p.length + q.length ≤ 9223372036854775807) (w : World) :
    (execOp a.eval o).run Tryz.prog w = .ok (.value (.string (B (p ++ q)))) w := by
  have h := run_string_add_sum (P := Tryz.prog) (w := w) (B p) (B q) (by rw [B_size, B_size]; exact hb)
  rw [B_append] at h
  unfold execOp
  simp only [ho, hx, hy]
  simp [go_sem, Tryz.underlying9, h, eqGuard]
variable {dst : Option Tmp} {ty : TypeId} {pos : String} {af : Array Edge} {gd : Option (Nat × Bool)}
theorem at_cat {x y : Operand} {t : TypeId} (h : wpList Tryz.prog ops Q ((⟨dst, .binOp .add 9 x y t, ty, pos, af, gd⟩ : Oper) :: rest) a w) : wpList Tryz.prog ops Q ((⟨dst, .binOp .add 9 x y t, ty, pos, af, gd⟩ : Oper) :: rest) a w := h
theorem rat_cat {P : Program} {S : World → Prop} {x y : Operand} {t : TypeId} (h : RunS P ops Q S ((⟨dst, .binOp .add 9 x y t, ty, pos, af, gd⟩ : Oper) :: rest) a) : RunS P ops Q S ((⟨dst, .binOp .add 9 x y t, ty, pos, af, gd⟩ : Oper) :: rest) a := h
theorem wpList_cat {x y : Operand} {ty : TypeId} (ho : o.op = .binOp .add 9 x y ty) (hw : Region.wanted o (yielded ops a.tmps) = true) {p q : Str} (hx : a.eval x = .string (B p)) (hy : a.eval y = .string (B q)) (hb : p.length + q.length ≤ 9223372036854775807)
    (h : wpList Tryz.prog ops Q rest (a.put o.dst (.string (B (p ++ q)))) w) : wpList Tryz.prog ops Q (o :: rest) a w :=
  wpList_one hw fun K hK => by
    unfold Oper.wp
    rw [run_cat ho hx hy hb]
    exact hK _ _ h
theorem runS_cat {x y : Operand} {ty : TypeId} (ho : o.op = .binOp .add 9 x y ty) (hw : Region.wanted o (yielded ops a.tmps) = true) {p q : Str} (hx : a.eval x = .string (B p)) (hy : a.eval y = .string (B q)) (hb : p.length + q.length ≤ 9223372036854775807)
    (hq : ∀ c a w, Q (.panic c) (a.put o.dst (.string (B (p ++ q)))) w → Q (.panic c) a w) (h : RunS Tryz.prog ops Q (St L w0 rows) rest (a.put o.dst (.string (B (p ++ q))))) : RunS Tryz.prog ops Q (St L w0 rows) (o :: rest) a :=
  runS_val hw hq (fun w _ => run_cat ho hx hy hb w) h
theorem int_eq {x y : Int} (h : (x == y) = true) : x = y := eq_of_beq h
theorem str_eq {x y : Str} (h : (x == y) = true) : x = y := eq_of_beq h
theorem loop_here {c : Code} (h : (Code.loop c).wp Tryz.prog Q a w) : (Code.loop c).wp Tryz.prog Q a w := h
theorem rounds_step {c : Code} {n : Nat} (h : c.wp Tryz.prog (Exit.then (Code.rounds Tryz.prog c Q n) Q) a w) : Code.rounds Tryz.prog c Q (n + 1) a w := h
/-- A string is read that lies where the call was told. -/
theorem run_ld_out {x : Operand} (ho : o.op = .load 9 x) {p : Addr} (hx : a.eval x = .pointer (some p)) {v : Value} (hc : w.cell? p = some v) : (execOp a.eval o).run Tryz.prog w = .ok (.value v) w := by
  obtain ⟨d, hu, hd⟩ := scal9
  have hagg : (isAgg 9).run Tryz.prog w = .ok false w := by
    unfold isAgg
    rw [Sem.run_bind, run_underlying hu w]
    cases d <;> simp_all
  have hl : (loadVar 9 p).run Tryz.prog w = .ok v w := by simp [loadVar, Sem.run_bind, hagg, hc]
  unfold execOp
  simp only [ho, hx, Instr.loadAt, Instr.sureAddr, Sem.run_bind, Sem.run_pure, Result.andThen_ok, hl]
theorem wpList_ld_out {x : Operand} (ho : o.op = .load 9 x) (hw : Region.wanted o (yielded ops a.tmps) = true) {p : Addr} (hx : a.eval x = .pointer (some p)) {v : Value} (hc : w.cell? p = some v)
    (h : wpList Tryz.prog ops Q rest (a.put o.dst v) w) : wpList Tryz.prog ops Q (o :: rest) a w :=
  wpList_one hw fun K hK => by
    unfold Oper.wp
    rw [run_ld_out ho hx hc]
    exact hK _ _ h
theorem runS_ld_out {x : Operand} (ho : o.op = .load 9 x) (hw : Region.wanted o (yielded ops a.tmps) = true) {p : Addr} (hx : a.eval x = .pointer (some p)) {v : Value} (hc : ∀ w, St L w0 rows w → w.cell? p = some v)
    (hq : ∀ c a w, Q (.panic c) (a.put o.dst v) w → Q (.panic c) a w) (h : RunS Tryz.prog ops Q (St L w0 rows) rest (a.put o.dst v)) : RunS Tryz.prog ops Q (St L w0 rows) (o :: rest) a :=
  runS_val hw hq (fun w hS => run_ld_out ho hx (hc w hS)) h
/-- The words l lie in block g from offset off on. -/
def CellsAt (g off : Nat) (l : List Str) (w : World) : Prop := ∀ k x, l[k]? = some x → w.cell? ⟨g, off + k, none⟩ = some (.string (B x))
theorem CellsAt.keep {g off : Nat} {l : List Str} {w1 w2 : World} (h : CellsAt g off l w1) (hb : Below w1.heap.size w1 w2) : CellsAt g off l w2 := fun k x hx => cell_below hb (h k x hx)
/-- A block that a call has made joins the rows. -/
theorem St.grow (h : St L w0 rows w) {w' : World} (hb : Below w.heap.size w w') {g T : Nat} {cs : Array Value} (hg : w'.heap[g]? = some (.cells cs T (0, 0))) (h1 : w.heap.size ≤ g) : St L w0 ((g, cs, T) :: rows) w' := by
  have h' := h.mono hb
  refine ⟨h'.base, h'.keeps, h'.below, ?_, ?_⟩
  · intro x hx
    rcases List.mem_cons.1 hx with rfl | hx
    · exact ⟨hg, Nat.le_trans h.below.size h1⟩
    · exact h'.has x hx
  · simp only [List.map_cons, List.nodup_cons]
    refine ⟨?_, h'.apart⟩
    intro hm
    obtain ⟨x, hx, e⟩ := List.mem_map.1 hm
    have := (Array.getElem?_eq_some_iff.1 (h.has x hx).1).1
    omega
def HasWords (cur : Array Value) (l : List Str) : Prop := ∀ (k : Nat) (x : Str), l[k]? = some x → cur[k]? = some (Value.string (B x))
theorem St.words (h : St L w0 rows w) {w' : World} {l : List Str} {A : Option Addr} {c : Nat} (ht : Texts w' w.heap.size l (.slice A l.length c)) (hb : Below w.heap.size w w') (hne : 0 < l.length) :
    ∃ g cur, A = some ⟨g, 0, none⟩ ∧ HasWords cur l ∧ l.length ≤ c ∧ St L w0 ((g, cur, 9) :: rows) w' := by
  rcases ht.2 with ⟨_, h0⟩ | ⟨g, cap, cur, hv, hg, hh, hn, _, _, hx⟩
  · omega
  · injection hv with h1 h2 h3
    subst h1 h3
    refine ⟨g, cur, rfl, ?_, hn, h.grow hb hh hg⟩
    intro k x hk
    have hlt : k < l.length := by
      rcases Nat.lt_or_ge k l.length with h | h
      · exact h
      · rw [List.getElem?_eq_none h] at hk; cases hk
    have e := congrArg (fun z => z[k]?) hx
    simp only [Nat.mul_one, List.getElem?_take, hlt, if_true, Array.getElem?_toList] at e
    rw [e, strCells_at hlt]
    rw [List.getElem?_eq_getElem hlt] at hk
    rw [Option.some.inj hk]
theorem HasWords.at_ {cur : Array Value} {l : List Str} (h : HasWords cur l) {g : Nat} (hS : St L w0 rows w) (hm : RowAt g cur 9 rows) (off : Nat) : CellsAt g off (l.drop off) w := fun k x hx => by
  rw [cell_of_row w g (off + k) cur 9 (0, 0) (hS.row hm)]
  exact h (off + k) x (by rw [List.getElem?_drop] at hx; exact hx)
theorem ret_B {p q : Str} (h : p = q) : Ending.returned (.string (B p)) = .returned (.string (B q)) := by rw [h]
end
end Go.Proofs.YtakgfbcmkhcdkaaGreatDoor
namespace Go.Proofs.YtakgfbcmkhcdkaaGreatDoor
set_option linter.all false
open Go.ChangeShapes Go.WideShapes Go.RowKit
structure Rf where
  kind : Int
  n : Int
  f : Flt
def Rf.cells (r : Rf) : Array Value := #[.int .i64 r.kind, .int .i64 r.n, .int .i64 r.f.zone, .int .i64 r.f.who, .int .i64 r.f.self, .int .i64 r.f.types, .int .i64 r.f.ntypes, .int .i64 r.f.colors, .int .i64 r.f.ncolors, .string r.f.sub, .int .i64 r.f.keys, .int .i64 r.f.tap, .int .i64 r.f.pk, .int .i64 r.f.pn, .int .i64 r.f.tk, .int .i64 r.f.tn, .int .i64 r.f.vk, .int .i64 r.f.vn]
def zeroR : Rf := ⟨0, 0, zeroF⟩
def refT : List Str := [[], [121, 111, 117], [115, 101, 108, 102], [116, 97, 114, 103, 101, 116], [101, 97, 99, 104, 40], [111, 112, 112, 111, 110, 101, 110, 116, 115], [112, 108, 97, 121, 101, 114, 115], [105, 116], [111, 119, 110, 101, 114]]
def eachW : Str := [101, 97, 99, 104, 40]
def targetW : Str := [116, 97, 114, 103, 101, 116]
def ownerW : Str := [111, 119, 110, 101, 114]
def kNum (k : Int) : Bool := k == 3 || k == 8
def kBare (k : Int) : Bool := k == 1 || (k == 2 || (k == 5 || (k == 6 || k == 7)))
/-- A reference is valid for a number of targets. -/
def refIs (r : Rf) (specs : Int) : Bool :=
  if kNum r.kind = true then decide (1 ≤ r.n) && (decide (r.n ≤ specs) && (decide (r.n ≤ 4) && fltEq r.f zeroF))
  else if r.kind = 4 then r.n == 0 && fltIs r.f
  else kBare r.kind && (r.n == 0 && fltEq r.f zeroF)
def refBody (r : Rf) : Str :=
  if kNum r.kind = true then wd refT r.kind.toNat ++ Lib.itoa r.n
  else if r.kind = 4 then eachW ++ textOf r.f ++ [41] else wd refT r.kind.toNat
/-- A reference's text; empty if it is not valid. -/
def refText (r : Rf) : Str := if refIs r 4 = true then refBody r else []
/-- The filter in brackets. -/
def readEach (s : Str) : Option Flt := if Lib.hasPrefix s eachW = true ∧ Lib.hasSuffix (Lib.trimPrefix s eachW) [41] = true then parseS (Lib.trimSuffix (Lib.trimPrefix s eachW) [41]) else none
def readNum (s p : Str) : Option Int := if Lib.hasPrefix s p = true then numOf (Lib.trimPrefix s p) else none
/-- A reference whose text may be s. -/
def readR (s : Str) : Rf :=
  if s = wd refT 1 then ⟨1, 0, zeroF⟩ else if s = wd refT 2 then ⟨2, 0, zeroF⟩ else if s = wd refT 5 then ⟨5, 0, zeroF⟩ else if s = wd refT 6 then ⟨6, 0, zeroF⟩ else if s = wd refT 7 then ⟨7, 0, zeroF⟩
  else match readNum s targetW with
    | some n => ⟨3, n, zeroF⟩
    | none => match readNum s ownerW with
      | some n => ⟨8, n, zeroF⟩
      | none => match readEach s with
        | some f => ⟨4, 0, f⟩
        | none => zeroR
def refParse (s : Str) : Option Rf := if refIs (readR s) 4 = true ∧ refText (readR s) = s then some (readR s) else none
theorem itoa_1 : Lib.itoa 1 = [49] := by unfold Lib.itoa; rw [if_neg (by decide)]; exact Lib.decDigits_one (by decide)
theorem itoa_2 : Lib.itoa 2 = [50] := by unfold Lib.itoa; rw [if_neg (by decide)]; exact Lib.decDigits_one (by decide)
theorem itoa_3 : Lib.itoa 3 = [51] := by unfold Lib.itoa; rw [if_neg (by decide)]; exact Lib.decDigits_one (by decide)
theorem itoa_4 : Lib.itoa 4 = [52] := by unfold Lib.itoa; rw [if_neg (by decide)]; exact Lib.decDigits_one (by decide)
theorem suffix_snoc (l : Str) : Lib.hasSuffix (l ++ [41]) [41] = true := by unfold Lib.hasSuffix; simp [List.isSuffixOf]
theorem trim_snoc (l : Str) : Lib.trimSuffix (l ++ [41]) [41] = l := by unfold Lib.trimSuffix; rw [if_pos (suffix_snoc l)]; simp
theorem pre_each (l : Str) : Lib.hasPrefix (eachW ++ l) eachW = true := by unfold Lib.hasPrefix; simp [List.isPrefixOf, eachW]
theorem trim_each (l : Str) : Lib.trimPrefix (eachW ++ l) eachW = l := by unfold Lib.trimPrefix; rw [if_pos (pre_each l)]; simp [eachW]
theorem readEach_text (l : Str) : readEach (eachW ++ l ++ [41]) = parseS l := by
  unfold readEach; rw [List.append_assoc, pre_each, trim_each, suffix_snoc, trim_snoc, if_pos ⟨rfl, rfl⟩]
/-- The valid references, kind for kind. -/
theorem refIs_cases {r : Rf} (h : refIs r 4 = true) : r = ⟨1, 0, zeroF⟩ ∨ r = ⟨2, 0, zeroF⟩ ∨ r = ⟨5, 0, zeroF⟩ ∨ r = ⟨6, 0, zeroF⟩ ∨ r = ⟨7, 0, zeroF⟩ ∨ (r = ⟨3, 1, zeroF⟩ ∨ r = ⟨3, 2, zeroF⟩ ∨ r = ⟨3, 3, zeroF⟩ ∨ r = ⟨3, 4, zeroF⟩) ∨ (r = ⟨8, 1, zeroF⟩ ∨ r = ⟨8, 2, zeroF⟩ ∨ r = ⟨8, 3, zeroF⟩ ∨ r = ⟨8, 4, zeroF⟩) ∨ ∃ f, fltIs f = true ∧ r = ⟨4, 0, f⟩ := by
  obtain ⟨k, n, f⟩ := r
  unfold refIs kNum kBare at h
  simp only at h
  by_cases h3 : k = 3
  · subst h3
    simp only [beq_self_eq_true, Bool.true_or, if_true, Bool.and_eq_true, decide_eq_true_eq] at h
    obtain ⟨h1, h2, _, hf⟩ := h
    have hf := (fltEq_iff _ _).1 hf; subst hf
    have : n = 1 ∨ n = 2 ∨ n = 3 ∨ n = 4 := by omega
    rcases this with rfl | rfl | rfl | rfl <;> simp
  · by_cases h8 : k = 8
    · subst h8
      simp only [beq_self_eq_true, Bool.or_true, if_true, Bool.and_eq_true, decide_eq_true_eq] at h
      obtain ⟨h1, h2, _, hf⟩ := h
      have hf := (fltEq_iff _ _).1 hf; subst hf
      have : n = 1 ∨ n = 2 ∨ n = 3 ∨ n = 4 := by omega
      rcases this with rfl | rfl | rfl | rfl <;> simp
    · rw [if_neg (by simp [h3, h8])] at h
      by_cases h4 : k = 4
      · subst h4
        rw [if_pos rfl, Bool.and_eq_true, beq_iff_eq] at h
        obtain ⟨rfl, hf⟩ := h
        right; right; right; right; right; right; right
        exact ⟨f, hf, rfl⟩
      · rw [if_neg h4] at h
        simp only [Bool.and_eq_true, Bool.or_eq_true, beq_iff_eq] at h
        obtain ⟨hk, rfl, hf⟩ := h
        have hf := (fltEq_iff _ _).1 hf; subst hf
        rcases hk with rfl | rfl | rfl | rfl | rfl <;> simp
theorem read_each (f : Flt) (h : fltIs f = true) : readR (eachW ++ textOf f ++ [41]) = ⟨4, 0, f⟩ := by
  have e1 : readEach (eachW ++ textOf f ++ [41]) = some f := by rw [readEach_text, parse_text h]
  unfold readR
  rw [e1]
  have n1 : readNum (eachW ++ textOf f ++ [41]) targetW = none := rfl
  have n2 : readNum (eachW ++ textOf f ++ [41]) ownerW = none := rfl
  rw [n1, n2]
  rw [if_neg (by simp [eachW, refT, wd]), if_neg (by simp [eachW, refT, wd]), if_neg (by simp [eachW, refT, wd]), if_neg (by simp [eachW, refT, wd]), if_neg (by simp [eachW, refT, wd])]
/-- P16.3: what is read of a valid reference's text is the reference. -/
theorem read_text {r : Rf} (h : refIs r 4 = true) : readR (refText r) = r ∧ refText r ≠ [] := by
  have ht : refText r = refBody r := if_pos h
  rw [ht]
  rcases refIs_cases h with rfl | rfl | rfl | rfl | rfl | (rfl | rfl | rfl | rfl) | (rfl | rfl | rfl | rfl) | ⟨f, hf, rfl⟩
  · exact ⟨by kernel_rfl, by decide⟩
  · exact ⟨by kernel_rfl, by decide⟩
  · exact ⟨by kernel_rfl, by decide⟩
  · exact ⟨by kernel_rfl, by decide⟩
  · exact ⟨by kernel_rfl, by decide⟩
  · exact ⟨by kernel_rfl, by decide +kernel⟩
  · exact ⟨by kernel_rfl, by decide +kernel⟩
  · exact ⟨by kernel_rfl, by decide +kernel⟩
  · exact ⟨by kernel_rfl, by decide +kernel⟩
  · exact ⟨by kernel_rfl, by decide +kernel⟩
  · exact ⟨by kernel_rfl, by decide +kernel⟩
  · exact ⟨by kernel_rfl, by decide +kernel⟩
  · exact ⟨by kernel_rfl, by decide +kernel⟩
  · have e : refBody ⟨4, 0, f⟩ = eachW ++ textOf f ++ [41] := rfl
    rw [e]
    exact ⟨read_each f hf, by simp [eachW]⟩
theorem refParse_text {r : Rf} (h : refIs r 4 = true) : refParse (refText r) = some r := by
  unfold refParse; rw [(read_text h).1, if_pos ⟨h, rfl⟩]
theorem refText_ne {r : Rf} (h : refIs r 4 = true) : refText r ≠ [] := (read_text h).2
theorem refText_no {r : Rf} (h : refIs r 4 = false) : refText r = [] := if_neg (by rw [h]; decide)
theorem refParse_back {s : Str} {r : Rf} (h : refParse s = some r) : refIs r 4 = true ∧ refText r = s := by
  unfold refParse at h; split at h
  · rename_i hh; injection h with h; rw [← h]; exact hh
  · cases h
theorem refParse_empty : refParse [] = none := by kernel_rfl
end Go.Proofs.YtakgfbcmkhcdkaaGreatDoor
namespace Go.Proofs.YtakgfbcmkhcdkaaGreatDoor
set_option linter.all false
open Go.ChangeShapes Go.WideShapes Go.RowKit
structure Am where
  k : Int
  n : Int
  c : Int
  f : Flt
def Am.cells (r : Am) : Array Value := #[.int .i64 r.k, .int .i64 r.n, .int .i64 r.c, .int .i64 r.f.zone, .int .i64 r.f.who, .int .i64 r.f.self, .int .i64 r.f.types, .int .i64 r.f.ntypes, .int .i64 r.f.colors, .int .i64 r.f.ncolors, .string r.f.sub, .int .i64 r.f.keys, .int .i64 r.f.tap, .int .i64 r.f.pk, .int .i64 r.f.pn, .int .i64 r.f.tk, .int .i64 r.f.tn, .int .i64 r.f.vk, .int .i64 r.f.vn]
def zeroA : Am := ⟨0, 0, 0, zeroF⟩
def simT : List Str := [[], [120], [], [112, 111, 119, 101, 114], [], [108, 105, 102, 101], [104, 97, 110, 100], [116, 104, 97, 116]]
def cntT : List Str := [[112, 108, 117, 115], [109, 105, 110, 117, 115], [99, 104, 97, 114, 103, 101]]
def cntsW : Str := [99, 111, 117, 110, 116, 101, 114, 115, 40]
def countW : Str := [99, 111, 117, 110, 116, 40]
def bareA (k : Int) : Bool := k == 1 || (k == 3 || (k == 5 || (k == 6 || k == 7)))
/-- An amount is valid. -/
def amIs (a : Am) : Bool :=
  if a.k = 0 then decide (0 ≤ a.n) && (decide (a.n ≤ 1000000) && (a.c == 0 && fltEq a.f zeroF))
  else if a.k = 2 then decide (1 ≤ a.n) && (decide (a.n ≤ 99) && (a.c == 0 && fltIs a.f))
  else if a.k = 4 then a.n == 0 && ((a.c == 0 || (a.c == 1 || a.c == 2)) && fltEq a.f zeroF)
  else bareA a.k && (a.n == 0 && (a.c == 0 && fltEq a.f zeroF))
def cntText (c : Int) : Str := if c = 0 then wd cntT 0 else if c = 1 then wd cntT 1 else if c = 2 then wd cntT 2 else []
def countS (f : Flt) : Str := countW ++ (textOf f ++ [41])
def amBody (a : Am) : Str :=
  if a.k = 0 then Lib.itoa a.n
  else if a.k = 2 then (if 1 < a.n then Lib.itoa a.n ++ 42 :: countS a.f else countS a.f)
  else if a.k = 4 then cntsW ++ (cntText a.c ++ [41])
  else wd simT a.k.toNat
/-- An amount's text; empty if it is not valid. -/
def amText (a : Am) : Str := if amIs a = true then amBody a else []
/-- A text is cut at a byte outside all brackets. -/
def cutD (b : Nat) : Nat → Str → Option (Str × Str)
  | _, [] => none
  | d, c :: r => if d = 0 ∧ c.toNat = b then some ([], r) else (cutD b (deeperN d c.toNat) r).map fun p => (c :: p.1, p.2)
def simIx (s : Str) : Option Nat := (List.range' 0 8).find? fun k => wd simT k == s
def cntIx (s : Str) : Option Nat := (List.range' 0 3).find? fun k => wd cntT k == s
def inCount (s : Str) : Str := Lib.trimSuffix (Lib.trimPrefix s countW) [41]
/-- The amount whose text s would be. -/
def guessA (s : Str) : Am := match numOf s with
  | some n => ⟨0, n, 0, zeroF⟩
  | none => match simIx s with
    | some k => ⟨(k : Int), 0, 0, zeroF⟩
    | none => if Lib.hasPrefix s cntsW = true then ⟨4, 0, (((cntIx (Lib.trimSuffix (Lib.trimPrefix s cntsW) [41])).getD 0 : Nat) : Int), zeroF⟩
      else match cutD 42 0 s with
        | some (a, r) => ⟨2, (numOf a).getD 0, 0, (parseS (inCount r)).getD zeroF⟩
        | none => ⟨2, 1, 0, (parseS (inCount s)).getD zeroF⟩
def amParse (s : Str) : Option Am := if s ≠ [] ∧ amText (guessA s) = s then some (guessA s) else none
theorem numOf_text {s : Str} {v : Int} (h : numOf s = some v) : Lib.itoa v = s := by
  unfold numOf at h
  split at h
  · split at h
    · rename_i hh; injection h with h; rw [← h]; exact hh.2.2
    · cases h
  · cases h
theorem itoa_mem {v : Int} {c : UInt8} (h : c ∈ Lib.itoa v) : c.toNat = 45 ∨ (48 ≤ c.toNat ∧ c.toNat ≤ 57) := by
  rcases (by omega : v < 0 ∨ 0 ≤ v) with hv | hv
  · obtain ⟨u, rfl⟩ : ∃ u : Nat, v = -(u : Int) := ⟨v.natAbs, by omega⟩
    rw [Lib.itoa_neg u (by omega)] at h
    rcases List.mem_cons.1 h with rfl | h
    · exact .inl rfl
    · exact .inr (decDigits_mem u c h)
  · obtain ⟨u, rfl⟩ : ∃ u : Nat, v = (u : Int) := ⟨v.toNat, by omega⟩
    rw [Lib.itoa_nonneg] at h
    exact .inr (decDigits_mem u c h)
theorem numOf_bracket {s : Str} (h : (41 : UInt8) ∈ s) : numOf s = none := by
  cases hn : numOf s with
  | none => rfl
  | some v =>
    rw [← numOf_text hn] at h
    have := itoa_mem h
    simp at this
theorem simIx_bracket {s : Str} (h : (41 : UInt8) ∈ s) : simIx s = none := by
  unfold simIx
  rw [List.find?_eq_none]
  intro k hk e
  have e := beq_iff_eq.1 e
  rw [← e] at h
  have hall : ∀ k, k < 8 → (41 : UInt8) ∉ wd simT k := by decide
  exact hall k (by simp at hk; omega) h
theorem cutD_skip (l r : Str) (h : ∀ c ∈ l, c.toNat ≠ 42 ∧ c.toNat ≠ 40 ∧ c.toNat ≠ 41 ∧ c.toNat ≠ 91 ∧ c.toNat ≠ 93) : cutD 42 0 (l ++ 42 :: r) = some (l, r) := by
  induction l with
  | nil => rfl
  | cons x t ih =>
    have hx := h x (by simp)
    have hd : deeperN 0 x.toNat = 0 := by unfold deeperN; rw [if_neg (by omega), if_neg (by omega)]
    rw [List.cons_append, cutD, if_neg (by omega), hd, ih (fun c hc => h c (List.mem_cons_of_mem _ hc))]; rfl
theorem cutD_none : ∀ (s : Str) (d : Nat), (42 : UInt8) ∉ s → cutD 42 d s = none
  | [], _, _ => rfl
  | x :: t, d, h => by
    have hx : ¬ x.toNat = 42 := fun e => h (by rw [show x = 42 from UInt8.toNat_inj.1 e]; simp)
    rw [cutD, if_neg (by omega), cutD_none t _ (fun hm => h (List.mem_cons_of_mem _ hm))]; rfl
theorem cutD_len : ∀ {s : Str} {d b : Nat} {p q : Str}, cutD b d s = some (p, q) → p.length ≤ s.length ∧ q.length ≤ s.length
  | [], _, _, _, _, h => by cases h
  | x :: t, d, b, p, q, h => by
    rw [cutD] at h
    split at h
    · injection h with h; injection h with h1 h2; subst h1 h2; simp
    · cases hc : cutD b (deeperN d x.toNat) t with
      | none => rw [hc] at h; cases h
      | some pr =>
        rw [hc] at h
        obtain ⟨p', q'⟩ := pr
        have := cutD_len hc
        simp at h
        obtain ⟨rfl, rfl⟩ := h
        simp; omega
theorem join_mem {c : UInt8} {sep : Str} : ∀ {l : List Str}, c ∈ Lib.join l sep → (∃ w ∈ l, c ∈ w) ∨ c ∈ sep
  | [], h => by simp [Lib.join_nil] at h
  | [x], h => by rw [Lib.join_one] at h; exact .inl ⟨x, by simp, h⟩
  | x :: y :: r, h => by
    have e : Lib.join (x :: y :: r) sep = x ++ (sep ++ Lib.join (y :: r) sep) := by simp [Lib.join, List.intercalate, List.intersperse]
    rw [e] at h
    rcases List.mem_append.1 h with h | h
    · exact .inl ⟨x, by simp, h⟩
    rcases List.mem_append.1 h with h | h
    · exact .inr h
    · rcases join_mem h with ⟨w, hw, hc⟩ | h
      · exact .inl ⟨w, List.mem_cons_of_mem _ hw, hc⟩
      · exact .inr h
/-- The bytes of a filter's text. -/
theorem textOf_mem {f : Flt} {c : UInt8} (h : c ∈ textOf f) : okB c = true ∨ c = 32 := by
  unfold textOf at h
  split at h
  · rename_i hv
    obtain ⟨_, hok⟩ := fltIs_fn hv
    unfold fltText at h
    split at h
    · have : ∀ c ∈ anyW, okB c = true := by decide
      exact .inl (this c h)
    · rcases join_mem h with ⟨w, hw, hc⟩ | h
      · exact .inl (List.all_eq_true.1 (words_noB _ hok w hw) c hc)
      · right; simpa using h
  · cases h
theorem countS_mem {f : Flt} : (41 : UInt8) ∈ countS f ∧ (42 : UInt8) ∉ countS f := by
  refine ⟨by simp [countS], fun h => ?_⟩
  unfold countS at h
  rcases List.mem_append.1 h with h | h
  · revert h; decide
  rcases List.mem_append.1 h with h | h
  · rcases textOf_mem h with h | h
    · revert h; decide
    · revert h; decide
  · revert h; decide
theorem inCount_text (f : Flt) : inCount (countS f) = textOf f := by
  unfold inCount countS
  have h1 : Lib.hasPrefix (countW ++ (textOf f ++ [41])) countW = true := by unfold Lib.hasPrefix; simp [List.isPrefixOf, countW]
  have h2 : Lib.trimPrefix (countW ++ (textOf f ++ [41])) countW = textOf f ++ [41] := by unfold Lib.trimPrefix; rw [if_pos h1]; simp [countW]
  rw [h2, trim_snoc]
theorem dig_small : ∀ n : Fin 100, 1 ≤ n.val → (∃ x r, Lib.itoa (n.val : Nat) = x :: r ∧ x.toNat ≠ 99) := fun n h => by
  have h1 : Lib.itoa (n.val : Nat) = Lib.decDigits n.val := Lib.itoa_nonneg _
  cases hd : Lib.decDigits n.val with
  | nil => exact absurd hd (decDigits_ne _)
  | cons x r =>
    refine ⟨x, r, by rw [h1, hd], ?_⟩
    have := decDigits_mem n.val x (by rw [hd]; simp)
    omega
theorem amBody_two (n c : Int) (f : Flt) : amBody ⟨2, n, c, f⟩ = if 1 < n then Lib.itoa n ++ 42 :: countS f else countS f := rfl
/-- The valid amounts, kind for kind. -/
theorem amIs_cases {a : Am} (h : amIs a = true) : (∃ n : Nat, n ≤ 1000000 ∧ a = ⟨0, n, 0, zeroF⟩) ∨ (∃ n : Nat, 1 ≤ n ∧ n ≤ 99 ∧ ∃ f, fltIs f = true ∧ a = ⟨2, n, 0, f⟩) ∨ (∃ c, (c = 0 ∨ c = 1 ∨ c = 2) ∧ a = ⟨4, 0, c, zeroF⟩) ∨ (∃ k, (k = 1 ∨ k = 3 ∨ k = 5 ∨ k = 6 ∨ k = 7) ∧ a = ⟨k, 0, 0, zeroF⟩) := by
  obtain ⟨k, n, c, f⟩ := a
  unfold amIs at h
  simp only at h
  by_cases h0 : k = 0
  · rw [if_pos h0] at h
    simp only [Bool.and_eq_true, decide_eq_true_eq, beq_iff_eq] at h
    obtain ⟨a1, a2, rfl, hf⟩ := h
    have := (fltEq_iff _ _).1 hf; subst this; subst h0
    exact .inl ⟨n.toNat, by omega, by rw [Int.toNat_of_nonneg a1]⟩
  rw [if_neg h0] at h
  by_cases h2 : k = 2
  · rw [if_pos h2] at h
    simp only [Bool.and_eq_true, decide_eq_true_eq, beq_iff_eq] at h
    obtain ⟨a1, a2, rfl, hf⟩ := h
    subst h2
    exact .inr (.inl ⟨n.toNat, by omega, by omega, f, hf, by rw [Int.toNat_of_nonneg (by omega)]⟩)
  rw [if_neg h2] at h
  by_cases h4 : k = 4
  · rw [if_pos h4] at h
    simp only [Bool.and_eq_true, Bool.or_eq_true, beq_iff_eq] at h
    obtain ⟨rfl, hc, hf⟩ := h
    have := (fltEq_iff _ _).1 hf; subst this; subst h4
    exact .inr (.inr (.inl ⟨c, hc, rfl⟩))
  · rw [if_neg h4] at h
    unfold bareA at h
    simp only [Bool.and_eq_true, Bool.or_eq_true, beq_iff_eq] at h
    obtain ⟨hk, rfl, rfl, hf⟩ := h
    have := (fltEq_iff _ _).1 hf; subst this
    exact .inr (.inr (.inr ⟨k, hk, rfl⟩))
theorem guess_count (f : Flt) (hf : fltIs f = true) : guessA (countS f) = ⟨2, 1, 0, f⟩ := by
  unfold guessA
  rw [numOf_bracket countS_mem.1]
  simp only
  rw [simIx_bracket countS_mem.1]
  simp only
  rw [if_neg (by unfold Lib.hasPrefix countS; simp [List.isPrefixOf, countW, cntsW]), cutD_none _ _ countS_mem.2]
  simp only
  rw [inCount_text, parse_text hf]; rfl
theorem guess_times (n : Nat) (h1 : 2 ≤ n) (h2 : n ≤ 99) (f : Flt) (hf : fltIs f = true) : guessA (Lib.itoa n ++ 42 :: countS f) = ⟨2, n, 0, f⟩ := by
  have hm : (41 : UInt8) ∈ Lib.itoa n ++ 42 :: countS f := List.mem_append_right _ (List.mem_cons_of_mem _ countS_mem.1)
  obtain ⟨x, r, hx, h99⟩ := dig_small ⟨n, by omega⟩ (by show 1 ≤ n; omega)
  have hp : Lib.hasPrefix (Lib.itoa n ++ 42 :: countS f) cntsW = false := by
    simp only at hx
    rw [hx]
    unfold Lib.hasPrefix
    have : ¬ (99 : UInt8) = x := fun e => h99 (by rw [← e]; rfl)
    simp [List.isPrefixOf, cntsW, this]
  have hc := cutD_skip (Lib.itoa n) (countS f) (fun c hc => by have := itoa_mem hc; omega)
  unfold guessA
  rw [numOf_bracket hm]
  simp only
  rw [simIx_bracket hm]
  simp only
  rw [if_neg (by rw [hp]; simp), hc]
  simp only
  rw [inCount_text, parse_text hf, numOf_itoa n (by omega)]; rfl
/-- What is guessed of a valid amount's text is the amount. -/
theorem guess_text {a : Am} (h : amIs a = true) : guessA (amText a) = a ∧ amText a ≠ [] := by
  have ht : amText a = amBody a := if_pos h
  rw [ht]
  rcases amIs_cases h with ⟨n, hn, rfl⟩ | ⟨n, h1, h2, f, hf, rfl⟩ | ⟨c, hc, rfl⟩ | ⟨k, hk, rfl⟩
  · have e : amBody ⟨0, (n : Int), 0, zeroF⟩ = Lib.itoa n := rfl
    rw [e]
    refine ⟨by unfold guessA; rw [numOf_itoa n hn], ?_⟩
    rw [Lib.itoa_nonneg]; exact decDigits_ne n
  · by_cases hn : n = 1
    · subst hn
      have e : amBody ⟨2, ((1 : Nat) : Int), 0, f⟩ = countS f := rfl
      rw [e]
      exact ⟨guess_count f hf, by simp [countS]⟩
    · have e : amBody ⟨2, (n : Int), 0, f⟩ = Lib.itoa n ++ 42 :: countS f := by
        rw [amBody_two, if_pos (by omega)]
      rw [e]
      exact ⟨guess_times n (by omega) h2 f hf, by simp⟩
  · rcases hc with rfl | rfl | rfl
    all_goals exact ⟨by kernel_rfl, by decide +kernel⟩
  · rcases hk with rfl | rfl | rfl | rfl | rfl
    all_goals exact ⟨by kernel_rfl, by decide +kernel⟩
theorem amText_ne {a : Am} (h : amIs a = true) : amText a ≠ [] := (guess_text h).2
theorem amText_no {a : Am} (h : amIs a = false) : amText a = [] := if_neg (by rw [h]; decide)
theorem amParse_text {a : Am} (h : amIs a = true) : amParse (amText a) = some a := by
  unfold amParse; rw [(guess_text h).1]; exact if_pos ⟨(guess_text h).2, rfl⟩
theorem amParse_back {s : Str} {a : Am} (h : amParse s = some a) : amIs a = true ∧ amText a = s := by
  unfold amParse at h
  split at h
  · rename_i hh
    injection h with h
    rw [← h]
    refine ⟨?_, hh.2⟩
    cases hv : amIs (guessA s) with
    | true => rfl
    | false => rw [amText_no hv] at hh; exact absurd hh.2.symm hh.1
  · cases h
theorem amParse_empty : amParse [] = none := if_neg (fun h => h.1 rfl)
/-- A reading that gives only what has that text, and something where there is such a thing, is amParse. -/
theorem amParse_only {s : Str} {o : Option Am} (h1 : ∀ t, o = some t → amIs t = true ∧ amText t = s) (h2 : o = none → ∀ t, amIs t = true → amText t = s → False) : o = amParse s := by
  cases ho : o with
  | some t =>
    obtain ⟨a, b⟩ := h1 t ho
    rw [← b, amParse_text a]
  | none =>
    cases hp : amParse s with
    | none => rfl
    | some t => obtain ⟨a, b⟩ := amParse_back hp; exact absurd b (fun b => h2 ho t a b)
end Go.Proofs.YtakgfbcmkhcdkaaGreatDoor
namespace Go.Proofs.YtakgfbcmkhcdkaaGreatDoor
set_option linter.all false
open Go.ChangeShapes Go.WideShapes Go.RowKit
structure Tg where
  k : Int
  who : Int
  f : Flt
def Tg.cells (r : Tg) : Array Value := #[.int .i64 r.k, .int .i64 r.who, .int .i64 r.f.zone, .int .i64 r.f.who, .int .i64 r.f.self, .int .i64 r.f.types, .int .i64 r.f.ntypes, .int .i64 r.f.colors, .int .i64 r.f.ncolors, .string r.f.sub, .int .i64 r.f.keys, .int .i64 r.f.tap, .int .i64 r.f.pk, .int .i64 r.f.pn, .int .i64 r.f.tk, .int .i64 r.f.tn, .int .i64 r.f.vk, .int .i64 r.f.vn]
def zeroT : Tg := ⟨0, 0, zeroF⟩
def verbT : List Str := [[], [101, 110, 116, 101, 114, 115], [108, 101, 97, 118, 101, 115], [100, 105, 101, 115], [97, 116, 116, 97, 99, 107, 115], [98, 108, 111, 99, 107, 115], [100, 101, 97, 108, 115], [100, 101, 97, 108, 116], [100, 114, 97, 119, 115], [99, 97, 115, 116, 115], [117, 112, 107, 101, 101, 112], [101, 110, 100], [103, 97, 105, 110, 115], [108, 111, 115, 101, 115], [112, 108, 97, 99, 101, 100]]
def pwT : List Str := [[97, 110, 121], [121, 111, 117], [111, 112, 112, 111, 110, 101, 110, 116, 115]]
def cutAt (c : UInt8) : Str → Str × Str
  | [] => ([], [])
  | x :: r => if x == c then ([], r) else (x :: (cutAt c r).1, (cutAt c r).2)
theorem index_one (c : UInt8) (s : Str) : (Lib.index s [c] = -1 ∧ cutAt c s = (s, [])) ∨ (∃ i : Nat, Lib.index s [c] = i ∧ cutAt c s = (s.take i, s.drop (i + 1))) := by
  induction s with
  | nil => exact Or.inl ⟨rfl, rfl⟩
  | cons x r ih =>
    by_cases h : x = c
    · subst h
      refine Or.inr ⟨0, ?_, ?_⟩
      · unfold Lib.index; simp [List.isPrefixOf]
      · simp [cutAt]
    · have h1 : (x == c) = false := by simpa using h
      have h2 : List.isPrefixOf [c] (x :: r) = false := by simp [List.isPrefixOf]; exact fun e => h e.symm
      rcases ih with ⟨a, b⟩ | ⟨i, a, b⟩
      · refine Or.inl ⟨?_, ?_⟩
        · unfold Lib.index; rw [h2, a]; rfl
        · rw [cutAt, h1, b]; rfl
      · refine Or.inr ⟨i + 1, ?_, ?_⟩
        · unfold Lib.index; rw [h2, a]
          have : ((i : Int) == -1) = false := by rw [beq_eq_false_iff_ne]; omega
          simp [this]
        · rw [cutAt, h1, b]; simp
theorem cut_one (c : UInt8) (s : Str) : (Lib.cut s [c]).1 = (cutAt c s).1 ∧ (Lib.cut s [c]).2.1 = (cutAt c s).2 := by
  unfold Lib.cut
  rcases index_one c s with ⟨a, b⟩ | ⟨i, a, b⟩
  · rw [a, b, if_neg (by omega)]; exact ⟨rfl, rfl⟩
  · rw [a, b, if_pos (by omega)]; exact ⟨rfl, rfl⟩
theorem cut_len (c : UInt8) (s : Str) : (cutAt c s).1.length ≤ s.length ∧ (cutAt c s).2.length ≤ s.length := by
  rcases index_one c s with ⟨_, b⟩ | ⟨i, _, b⟩
  · rw [b]; simp
  · rw [b]; simp; omega
def usesW (k : Int) : Bool := k == 8 || (k == 9 || (k == 10 || (k == 11 || (k == 12 || k == 13))))
def usesF (k : Int) : Bool := k == 1 || (k == 2 || (k == 3 || (k == 4 || (k == 5 || (k == 6 || (k == 7 || (k == 9 || k == 14)))))))
def whoText (who : Int) : Str := if who = 0 then wd pwT 0 else if who = 1 then wd pwT 1 else if who = 2 then wd pwT 2 else []
/-- A trigger is valid. -/
def tgIs (t : Tg) : Bool :=
  (decide (1 ≤ t.k) && decide (t.k ≤ 14)) && ((usesW t.k || t.who == 0) && ((t.who == 0 || (t.who == 1 || t.who == 2)) && (if usesF t.k = true then fltIs t.f && t.f.zone == (if t.k = 9 then 5 else 0) else fltEq t.f zeroF)))
def tgHead (k who : Int) : Str := wd verbT k.toNat ++ (if usesW k = true then [32] ++ whoText who else [])
def tgTail (f : Flt) : Str := [32, 40] ++ textOf f ++ [41]
def tgBody (t : Tg) : Str := tgHead t.k t.who ++ (if usesF t.k = true then tgTail t.f else [])
/-- A trigger's text; empty if it is not valid. -/
def tgText (t : Tg) : Str := if tgIs t = true then tgBody t else []
def verbIx (v : Str) : Option Nat := (List.range' 1 14).find? fun k => wd verbT k == v
def whoIx (n : Str) : Int := if n = wd pwT 2 then 2 else if n = wd pwT 1 then 1 else 0
/-- Behind the words: the filter in brackets, for the kinds that have one. -/
def readF (k who : Int) (rest : Str) : Option Tg :=
  if usesF k = true then (match parseS (Lib.trimSuffix (Lib.trimPrefix rest [40]) [41]) with | some f => some ⟨k, who, f⟩ | none => none) else some ⟨k, who, zeroF⟩
def readW (k : Int) (rest : Str) : Option Tg := if usesW k = true then readF k (whoIx (cutAt 32 rest).1) (cutAt 32 rest).2 else readF k 0 rest
/-- A trigger whose text may be s. -/
def readTg (s : Str) : Option Tg := match verbIx (cutAt 32 s).1 with | some k => readW k (cutAt 32 s).2 | none => none
def tgParse (s : Str) : Option Tg := match readTg s with | some t => if tgIs t = true ∧ tgText t = s then some t else none | none => none
theorem pre_open (l : Str) : Lib.trimPrefix ([40] ++ l) [40] = l := by
  unfold Lib.trimPrefix
  have : Lib.hasPrefix ([40] ++ l) [40] = true := by unfold Lib.hasPrefix; simp [List.isPrefixOf]
  rw [if_pos this]; simp
theorem readF_tail (k who : Int) (f : Flt) (hk : usesF k = true) (h : fltIs f = true) : readF k who ([40] ++ textOf f ++ [41]) = some ⟨k, who, f⟩ := by
  unfold readF
  rw [if_pos hk, List.append_assoc, pre_open, trim_snoc, parse_text h]
/-- The valid triggers, kind for kind. -/
theorem tgIs_cases {t : Tg} (h : tgIs t = true) :
    (∃ k, (k = 1 ∨ k = 2 ∨ k = 3 ∨ k = 4 ∨ k = 5 ∨ k = 6 ∨ k = 7 ∨ k = 14) ∧ ∃ f, fltIs f = true ∧ f.zone = 0 ∧ t = ⟨k, 0, f⟩) ∨
    (∃ k, (k = 8 ∨ k = 10 ∨ k = 11 ∨ k = 12 ∨ k = 13) ∧ ∃ who, (who = 0 ∨ who = 1 ∨ who = 2) ∧ t = ⟨k, who, zeroF⟩) ∨
    (∃ who, (who = 0 ∨ who = 1 ∨ who = 2) ∧ ∃ f, fltIs f = true ∧ f.zone = 5 ∧ t = ⟨9, who, f⟩) := by
  obtain ⟨k, who, f⟩ := t
  unfold tgIs at h
  simp only [Bool.and_eq_true, decide_eq_true_eq] at h
  obtain ⟨⟨h1, h2⟩, h3, h4, h5⟩ := h
  have hw : who = 0 ∨ who = 1 ∨ who = 2 := by simpa using h4
  by_cases hF : usesF k = true
  · rw [if_pos hF] at h5
    simp only [Bool.and_eq_true, beq_iff_eq] at h5
    obtain ⟨hf, hz⟩ := h5
    by_cases h9 : k = 9
    · subst h9; right; right
      exact ⟨who, hw, f, hf, by simpa using hz, rfl⟩
    · left
      rw [if_neg h9] at hz
      have hW : usesW k = false := by
        unfold usesF at hF; unfold usesW; simp at hF; simp; omega
      rw [hW] at h3
      have h0 : who = 0 := by simpa using h3
      subst h0
      refine ⟨k, ?_, f, hf, hz, rfl⟩
      unfold usesF at hF; simp at hF; omega
  · rw [if_neg hF] at h5
    have hz := (fltEq_iff _ _).1 h5; subst hz
    right; left
    refine ⟨k, ?_, who, hw, rfl⟩
    unfold usesF at hF; simp at hF; omega
theorem readTg_nil : readTg [] = none := by kernel_rfl
theorem rd_1 (f : Flt) : readTg (tgBody ⟨1, 0, f⟩) = readF 1 0 ([40] ++ textOf f ++ [41]) := by kernel_rfl
theorem rd_2 (f : Flt) : readTg (tgBody ⟨2, 0, f⟩) = readF 2 0 ([40] ++ textOf f ++ [41]) := by kernel_rfl
theorem rd_3 (f : Flt) : readTg (tgBody ⟨3, 0, f⟩) = readF 3 0 ([40] ++ textOf f ++ [41]) := by kernel_rfl
theorem rd_4 (f : Flt) : readTg (tgBody ⟨4, 0, f⟩) = readF 4 0 ([40] ++ textOf f ++ [41]) := by kernel_rfl
theorem rd_5 (f : Flt) : readTg (tgBody ⟨5, 0, f⟩) = readF 5 0 ([40] ++ textOf f ++ [41]) := by kernel_rfl
theorem rd_6 (f : Flt) : readTg (tgBody ⟨6, 0, f⟩) = readF 6 0 ([40] ++ textOf f ++ [41]) := by kernel_rfl
theorem rd_7 (f : Flt) : readTg (tgBody ⟨7, 0, f⟩) = readF 7 0 ([40] ++ textOf f ++ [41]) := by kernel_rfl
theorem rd_14 (f : Flt) : readTg (tgBody ⟨14, 0, f⟩) = readF 14 0 ([40] ++ textOf f ++ [41]) := by kernel_rfl
theorem rd_90 (f : Flt) : readTg (tgBody ⟨9, 0, f⟩) = readF 9 0 ([40] ++ textOf f ++ [41]) := by kernel_rfl
theorem rd_91 (f : Flt) : readTg (tgBody ⟨9, 1, f⟩) = readF 9 1 ([40] ++ textOf f ++ [41]) := by kernel_rfl
theorem rd_92 (f : Flt) : readTg (tgBody ⟨9, 2, f⟩) = readF 9 2 ([40] ++ textOf f ++ [41]) := by kernel_rfl
theorem read_tg {t : Tg} (h : tgIs t = true) : readTg (tgText t) = some t := by
  have ht : tgText t = tgBody t := if_pos h
  rw [ht]
  rcases tgIs_cases h with ⟨k, hk, f, hf, _, rfl⟩ | ⟨k, hk, who, hw, rfl⟩ | ⟨who, hw, f, hf, _, rfl⟩
  · rcases hk with rfl | rfl | rfl | rfl | rfl | rfl | rfl | rfl
    · exact (rd_1 f).trans (readF_tail 1 0 f (by decide) hf)
    · exact (rd_2 f).trans (readF_tail 2 0 f (by decide) hf)
    · exact (rd_3 f).trans (readF_tail 3 0 f (by decide) hf)
    · exact (rd_4 f).trans (readF_tail 4 0 f (by decide) hf)
    · exact (rd_5 f).trans (readF_tail 5 0 f (by decide) hf)
    · exact (rd_6 f).trans (readF_tail 6 0 f (by decide) hf)
    · exact (rd_7 f).trans (readF_tail 7 0 f (by decide) hf)
    · exact (rd_14 f).trans (readF_tail 14 0 f (by decide) hf)
  · rcases hk with rfl | rfl | rfl | rfl | rfl <;> rcases hw with rfl | rfl | rfl
    all_goals exact (show readTg _ = some _ from by kernel_rfl)
  · rcases hw with rfl | rfl | rfl
    · exact (rd_90 f).trans (readF_tail 9 0 f (by decide) hf)
    · exact (rd_91 f).trans (readF_tail 9 1 f (by decide) hf)
    · exact (rd_92 f).trans (readF_tail 9 2 f (by decide) hf)
theorem tgParse_text {t : Tg} (h : tgIs t = true) : tgParse (tgText t) = some t := by
  unfold tgParse; rw [read_tg h]; exact if_pos ⟨h, rfl⟩
theorem tgText_ne {t : Tg} (h : tgIs t = true) : tgText t ≠ [] := fun e => by
  have := read_tg h
  rw [e, readTg_nil] at this; cases this
theorem tgText_no {t : Tg} (h : tgIs t = false) : tgText t = [] := if_neg (by rw [h]; decide)
theorem tgParse_back {s : Str} {t : Tg} (h : tgParse s = some t) : tgIs t = true ∧ tgText t = s := by
  unfold tgParse at h; split at h
  · split at h
    · rename_i hh; injection h with h; rw [← h]; exact hh
    · cases h
  · cases h
theorem tgParse_empty : tgParse [] = none := by kernel_rfl
/-- A reading that gives only what has that text, and something where there is such a thing, is tgParse. -/
theorem tgParse_only {s : Str} {o : Option Tg} (h1 : ∀ t, o = some t → tgIs t = true ∧ tgText t = s) (h2 : o = none → ∀ t, tgIs t = true → tgText t = s → False) : o = tgParse s := by
  cases ho : o with
  | some t =>
    obtain ⟨a, b⟩ := h1 t ho
    rw [← b, tgParse_text a]
  | none =>
    cases hp : tgParse s with
    | none => rfl
    | some t => obtain ⟨a, b⟩ := tgParse_back hp; exact absurd b (fun b => h2 ho t a b)
end Go.Proofs.YtakgfbcmkhcdkaaGreatDoor
namespace Go.Proofs.YtakgfbcmkhcdkaaGreatDoor
set_option linter.all false
open Go.ChangeShapes Go.WideShapes Go.RowKit
theorem textOf_len {f : Flt} : (textOf f).length ≤ 1000000 := by
  unfold textOf; split
  · rename_i h
    obtain ⟨_, hok⟩ := fltIs_fn h
    unfold fltText; split
    · decide
    · have hs : (toFN f).sub.length ≤ 32 := by
        rcases hok.sub with e | e
        · rw [e]; simp
        · exact isSub_len e
      have := fltJoin_len (toFN f) hs hok.pn hok.tn hok.vn
      omega
  · decide
end Go.Proofs.YtakgfbcmkhcdkaaGreatDoor
