/- Walks: package word: Cut at a star. Conditions: the text is shorter than 100 million bytes. Walks: package mana: Parse. Conditions: Laid; the text is shorter than a hundred million bytes. Walks: pa -/
import Derived.Test.YtdnnbfbhifelkaaGreatDoorQ7
import Derived.Deep.RegionHeld3
import Derived.OwnWalk
import Derived.Test.YtdnnbfbhifelkaaGreatDoorQ8
import Derived.Test.YtdnnbfbhifelkaaGreatDoorQ5
import Derived.Test.YtdnnbfbhifelkaaGreatDoorQ3
import Derived.Test.YtdnnbfbhifelkaaGreatDoorQ4
import Derived.Test.YtdnnbfbhifelkaaGreatDoorQ2
set_option linter.all false
set_option maxRecDepth 100000
set_option maxHeartbeats 16000000
namespace Go.Proofs.YtdnnbfbhifelkaaGreatDoor
open Go.ChangeShapes Go.WideShapes Go.RowKit
def cutRet (s : ByteArray) (o : Option (Str × Str)) : Value := match o with | some p => .tuple #[.string (B p.1), .string (B p.2), .bool true] | none => .tuple #[.string s, .string ⟨#[]⟩, .bool false]
theorem hasPre_is (s p : ByteArray) (w : World) (pl : Str) (hp : L p = pl) (b : Bool) (h : Hid (Lib.hasPrefix (L s) pl = b)) :
 Calls Tryz.prog 170 #[.string s, .string p] w fun e w' => e = .returned (.bool b) ∧ w = w' := by
 subst hp
 exact (Tryz.strings_HasPrefix s p w).mono fun _ _ h' => ⟨h'.1.trans (by rw [← h.out]; rfl), h'.2.symm⟩
theorem cutD_at {s : Str} {k d : Nat} (h : k < s.length) : cutD 42 d (s.drop k) = if d = 0 ∧ byt s k = 42 then some ([], s.drop (k + 1)) else (cutD 42 (deeperN d (byt s k)) (s.drop (k + 1))).map fun p => (s.getD k 0 :: p.1, p.2) := by
 rw [List.drop_eq_getElem_cons h, cutD]
 have e : s[k] = s.getD k 0 := by simp [List.getD, h]
 rw [e]; rfl
theorem pre_star {s : Str} {k : Nat} (h : k < s.length) : Lib.hasPrefix (s.drop k) [42] = (byt s k == 42) := by
 rw [List.drop_eq_getElem_cons h]
 have e : s[k] = s.getD k 0 := by simp [List.getD, h]
 rw [e]
 unfold Lib.hasPrefix byt
 rw [Bool.eq_iff_iff]
 simp [List.isPrefixOf]
 exact ⟨fun e => by rw [← e]; rfl, fun e => (UInt8.toNat_inj.1 e).symm⟩
theorem take_one {s : Str} {k : Nat} (h : k < s.length) (l : Str) : s.take k ++ (s.getD k 0 :: l) = s.take (k + 1) ++ l := by
 rw [List.take_succ_eq_append_getElem h, List.append_assoc]
 simp [List.getD, h]
theorem map_take {s : Str} {k : Nat} (h : k < s.length) (o : Option (Str × Str)) : ((o.map fun p => (s.getD k 0 :: p.1, p.2)).map fun p => (s.take k ++ p.1, p.2)) = o.map fun p => (s.take (k + 1) ++ p.1, p.2) := by
 cases o with
 | none => rfl
 | some p => simp only [Option.map_some]; rw [take_one h]
theorem wcut_any (s : ByteArray) (w : World) (hs : s.size < 100000000) :
 Calls Tryz.prog 181 #[.string s, .string ⟨#[42]⟩] w fun e w' => e = .returned (cutRet s (cutD 42 0 (L s))) ∧ Below w.heap.size w w' := by
 have hg := get_l s
 have HL := Lib.hid (size_l s)
 obtain ⟨R, hR⟩ : ∃ R, cutD 42 0 (L s) = R := ⟨_, rfl⟩
 rw [hR]
 have HR := Lib.hid hR
 clear hR
 go_enter Tryz.func181, Tryz.ntmps181
 go_wp2
 go_loop [7, 8] (fun dv kv => ∃ k d : Nat, k ≤ s.size ∧ d ≤ k ∧ kv = .int .i64 k ∧ dv = .int .i64 d ∧ Hid (R = (cutD 42 d ((L s).drop k)).map fun p => ((L s).take k ++ p.1, p.2))) (fun _ kv => s.size - (intOf kv).toNat)
 case atStart => exact ⟨0, 0, by omega, by omega, rfl, rfl, Lib.hid (by rw [← HR.out]; simp)⟩
 case round =>
  obtain ⟨k, d, hk, hd, rfl, rfl, HD⟩ := hrel
  by_cases hlt : k < s.size
  ·have hkl : k < (L s).length := by rw [HL.out]; exact hlt
   have hst := HD.out
   rw [cutD_at hkl] at hst
   have hX : L (s.extract k s.size) = (L s).drop k := by rw [L_extract, List.take_of_length_le (by rw [HL.out]; exact Nat.le_refl _)]
   by_cases h0 : d = 0
   ·subst h0
    by_cases h42 : byt (L s) k = 42
    ·rw [if_pos ⟨rfl, h42⟩] at hst
     have HP : Hid (Lib.hasPrefix (L (s.extract k s.size)) [42] = true) := Lib.hid (by rw [hX, pre_star hkl, h42]; rfl)
     have HN : Hid (R = some ((L s).take k, (L s).drop (k + 1))) := Lib.hid (by rw [hst]; simp)
     have E1 : Hid (s.extract 0 k = B ((L s).take k)) := Lib.hid (L_inj (by rw [L_extract, L_B]; rfl))
     have E2 : Hid (s.extract (k + 1) s.size = B ((L s).drop (k + 1))) := Lib.hid (L_inj (by rw [L_extract, L_B, List.take_of_length_le (by rw [HL.out]; exact Nat.le_refl _)]))
     have EV : Hid (cutRet s R = .tuple #[.string (s.extract 0 k), .string (s.extract (k + 1) s.size), .bool true]) := Lib.hid (by rw [HN.out, E1.out, E2.out]; rfl)
     have hkI : (0 : Int) ≤ (k : Int) := by omega
     have hkS : (k : Int) ≤ (s.size : Int) := by omega
     have hk1 : (k : Int) + 1 ≤ (s.size : Int) := by omega
     have hkw : IntKind.i64.wrap ((k : Int) + 1) = (k : Int) + 1 := i64_wrap_nat _ (by omega) (by omega)
     have hk0 : (0 : Int) ≤ (k : Int) + 1 := by omega
     clear hst hX h42
     go_wp2_with (go_at_call 170; (with_reducible refine (hasPre_is _ _ _ [42] rfl true HP).mono ?_); rintro e w1 ⟨rfl, rfl⟩)
     go_region_held3 (fun w' => Below w.heap.size w w') (first | exact (Below.refl _ _).drew | assumption) (fail)
     all_goals
      go_wp2
      go_ret3
      exact ⟨by rw [EV.out]; rfl, (Below.refl _ _).drew⟩
    ·rw [if_neg (fun h => h42 h.2)] at hst
     have HP : Hid (Lib.hasPrefix (L (s.extract k s.size)) [42] = false) := Lib.hid (by rw [hX, pre_star hkl, beq_eq_false_iff_ne]; exact h42)
     have HN : Hid (R = (cutD 42 (deeperN 0 (byt (L s) k)) ((L s).drop (k + 1))).map fun p => ((L s).take (k + 1) ++ p.1, p.2)) := Lib.hid (by rw [hst, map_take hkl])
     have hdn : deeperN 0 (byt (L s) k) ≤ k + 1 := Nat.le_trans (deeperN_le _ _) (by omega)
     clear hst hX h42
     generalize hdd : deeperN 0 (byt (L s) k) = dd at *
     have HDD := Lib.hid hdd
     clear hdd
     go_wp2_with (first | (go_at_call 170; (with_reducible refine (hasPre_is _ _ _ [42] rfl false HP).mono ?_); rintro e w1 ⟨rfl, rfl⟩) | (go_at_call 90; (refine (deeper_any 0 _ (by omega) _).mono ?_); rw [HDD.out]; rintro e w1 ⟨rfl, rfl⟩))
     go_round
     case rel => exact ⟨k + 1, dd, by omega, hdn, by go_num, rfl, HN⟩
     case measure => simp [intOf]; omega
   ·have t0 : ((d : Int) == 0) = false := by rw [beq_eq_false_iff_ne]; omega
    rw [if_neg (fun h => h0 h.1)] at hst
    have HN : Hid (R = (cutD 42 (deeperN d (byt (L s) k)) ((L s).drop (k + 1))).map fun p => ((L s).take (k + 1) ++ p.1, p.2)) := Lib.hid (by rw [hst, map_take hkl])
    have hdn : deeperN d (byt (L s) k) ≤ k + 1 := Nat.le_trans (deeperN_le _ _) (by omega)
    clear hst hX h0
    generalize hdd : deeperN d (byt (L s) k) = dd at *
    have HDD := Lib.hid hdd
    clear hdd
    go_wp2_with (first | (go_at_call 90; (with_reducible refine (deeper_any d _ (by omega) _).mono ?_); rw [HDD.out]; rintro e w1 ⟨rfl, rfl⟩))
    go_round
    case rel => exact ⟨k + 1, dd, by omega, hdn, by go_num, rfl, HN⟩
    case measure => simp [intOf]; omega
  ·obtain rfl : k = s.size := by omega
   have HN : Hid (none = R) := Lib.hid (by rw [HD.out, List.drop_of_length_le (by rw [HL.out]; exact Nat.le_refl _)]; rfl)
   go_wp2
   go_ret3
   exact ⟨ret_val (by rw [← HN.out]; rfl), Below.refl _ _⟩
end Go.Proofs.YtdnnbfbhifelkaaGreatDoor
namespace Go.Proofs.YtdnnbfbhifelkaaGreatDoor
attribute [local irreducible] wpList Code.wp Calls
open Go.ChangeShapes Go.WideShapes Go.RowKit
section
variable {L : World → Prop} {w0 w : World} {rows : List Row} {ops : Array Oper} {rest : List Oper} {o : Oper} {a : Act} {Q : Exit → Act → World → Prop}
theorem wpList_st1 {T : Nat} {x y : Operand} (ho : o.op = .store T x y) (hS : St L w0 rows w) (hw : Region.wanted o (yielded ops a.tmps) = true) {g off : Nat} (hx : a.eval x = .pointer (some ⟨g, off, none⟩)) {v : Value} (hy : a.eval y = v)
 {cs new : Array Value} {T' : Nat} {rows'} (hm : RowSet g cs new T' rows rows') (hfit : off + v.cells.size ≤ cs.size)
 (hnew : cs.toList.take off ++ v.cells.toList ++ cs.toList.drop (off + v.cells.size) = new.toList) (hi : (Tryz.prog.info? T).map (·.size) = some v.cells.size) (h1 : v.cells.all (·.oneCell') = true)
 (h : St L w0 rows' (w.setRow g new) → wpList Tryz.prog ops Q rest (a.put o.dst undef) (w.setRow g new)) : wpList Tryz.prog ops Q (o :: rest) a w :=
 wpList_one hw fun K hK => by
  have hst := run_storeCells_at Tryz.prog g off T' v.cells.toList 0 cs w (hS.has _ hm.mem).1 (by simpa using hfit) (fun u hu => (Array.all_eq_true_iff_forall_mem.1 h1) u (by simpa using hu))
  have e : (cs.toList.take (off + 0) ++ v.cells.toList ++ cs.toList.drop (off + 0 + v.cells.toList.length)).toArray = new := by
   rw [Nat.add_zero, Array.length_toList, hnew]
  rw [e] at hst
  have hs : (storeVar T ⟨g, off, none⟩ v).run Tryz.prog w = .ok () (w.setRow g new) := by
   cases hq : Tryz.prog.info? T with
   | none => simp [hq] at hi
   | some i =>
     have hs : v.cells.size = i.size := by simp [hq] at hi; omega
     simp [storeVar, sizeOf, typeInfo, hq, hs, hst]
  unfold Oper.wp execOp
  simp only [ho, hx, hy, Instr.storeAt, Instr.sureAddr, Sem.run_bind, Sem.run_pure, Result.andThen_ok, hs]
  exact hK _ _ (h (hS.set hm))
theorem wpList_ld_known {T : Nat} {x : Operand} (ho : o.op = .load T x) (hw : Region.wanted o (yielded ops a.tmps) = true) {p : Addr} (hx : a.eval x = .pointer (some p)) (hT : ∃ d, Tryz.prog.underlying T = some d ∧ d.isRow = false) {v : Value} (hc : w.cell? p = some v)
 (h : wpList Tryz.prog ops Q rest (a.put o.dst v) w) : wpList Tryz.prog ops Q (o :: rest) a w :=
 wpList_one hw fun K hK => by
  obtain ⟨d, hu, hd⟩ := hT
  have hagg : (isAgg T).run Tryz.prog w = .ok false w := by
   unfold isAgg
   rw [Sem.run_bind, run_underlying hu w]
   cases d <;> simp_all
  have hl : (loadVar T p).run Tryz.prog w = .ok v w := by simp [loadVar, Sem.run_bind, hagg, hc]
  unfold Oper.wp execOp
  simp only [ho, hx, Instr.loadAt, Instr.sureAddr, Sem.run_bind, Sem.run_pure, Result.andThen_ok, hl]
  exact hK _ _ h
end
section
variable {L : World → Prop} {w0 w : World} {rows : List Row} {ops : Array Oper} {rest : List Oper} {o : Oper} {a : Act} {Q : Exit → Act → World → Prop}
theorem cos_s1_2 {x y : Operand} (ho : o.op = .store 3 x y) (hS : St L w0 rows w) (hw : Region.wanted o (yielded ops a.tmps) = true) {g : Nat} (hx : a.eval x = .pointer (some ⟨g, 2, none⟩)) {v : Int} (hy : a.eval y = .int .i64 v) {r : Co} {T' : Nat} {rows' : List Row} (hm : RowSet g (Co.cells r) (Co.cells ⟨r.g, r.x, v, r.c1, r.c2, r.c3, r.c4⟩) T' rows rows') (h : St L w0 rows' (w.setRow g (Co.cells ⟨r.g, r.x, v, r.c1, r.c2, r.c3, r.c4⟩)) → wpList Tryz.prog ops Q rest (a.put o.dst undef) (w.setRow g (Co.cells ⟨r.g, r.x, v, r.c1, r.c2, r.c3, r.c4⟩))) : wpList Tryz.prog ops Q (o :: rest) a w :=
 wpList_st1 ho hS hw hx hy hm (Nat.le_of_ble_eq_true rfl) (cos_set2 r v) infoInt1 (by simp [Value.cells, Value.oneCell']) h
theorem cos_s1_3 {x y : Operand} (ho : o.op = .store 3 x y) (hS : St L w0 rows w) (hw : Region.wanted o (yielded ops a.tmps) = true) {g : Nat} (hx : a.eval x = .pointer (some ⟨g, 3, none⟩)) {v : Int} (hy : a.eval y = .int .i64 v) {r : Co} {T' : Nat} {rows' : List Row} (hm : RowSet g (Co.cells r) (Co.cells ⟨r.g, r.x, r.c0, v, r.c2, r.c3, r.c4⟩) T' rows rows') (h : St L w0 rows' (w.setRow g (Co.cells ⟨r.g, r.x, r.c0, v, r.c2, r.c3, r.c4⟩)) → wpList Tryz.prog ops Q rest (a.put o.dst undef) (w.setRow g (Co.cells ⟨r.g, r.x, r.c0, v, r.c2, r.c3, r.c4⟩))) : wpList Tryz.prog ops Q (o :: rest) a w :=
 wpList_st1 ho hS hw hx hy hm (Nat.le_of_ble_eq_true rfl) (cos_set3 r v) infoInt1 (by simp [Value.cells, Value.oneCell']) h
theorem cos_s1_4 {x y : Operand} (ho : o.op = .store 3 x y) (hS : St L w0 rows w) (hw : Region.wanted o (yielded ops a.tmps) = true) {g : Nat} (hx : a.eval x = .pointer (some ⟨g, 4, none⟩)) {v : Int} (hy : a.eval y = .int .i64 v) {r : Co} {T' : Nat} {rows' : List Row} (hm : RowSet g (Co.cells r) (Co.cells ⟨r.g, r.x, r.c0, r.c1, v, r.c3, r.c4⟩) T' rows rows') (h : St L w0 rows' (w.setRow g (Co.cells ⟨r.g, r.x, r.c0, r.c1, v, r.c3, r.c4⟩)) → wpList Tryz.prog ops Q rest (a.put o.dst undef) (w.setRow g (Co.cells ⟨r.g, r.x, r.c0, r.c1, v, r.c3, r.c4⟩))) : wpList Tryz.prog ops Q (o :: rest) a w :=
 wpList_st1 ho hS hw hx hy hm (Nat.le_of_ble_eq_true rfl) (cos_set4 r v) infoInt1 (by simp [Value.cells, Value.oneCell']) h
theorem cos_s1_5 {x y : Operand} (ho : o.op = .store 3 x y) (hS : St L w0 rows w) (hw : Region.wanted o (yielded ops a.tmps) = true) {g : Nat} (hx : a.eval x = .pointer (some ⟨g, 5, none⟩)) {v : Int} (hy : a.eval y = .int .i64 v) {r : Co} {T' : Nat} {rows' : List Row} (hm : RowSet g (Co.cells r) (Co.cells ⟨r.g, r.x, r.c0, r.c1, r.c2, v, r.c4⟩) T' rows rows') (h : St L w0 rows' (w.setRow g (Co.cells ⟨r.g, r.x, r.c0, r.c1, r.c2, v, r.c4⟩)) → wpList Tryz.prog ops Q rest (a.put o.dst undef) (w.setRow g (Co.cells ⟨r.g, r.x, r.c0, r.c1, r.c2, v, r.c4⟩))) : wpList Tryz.prog ops Q (o :: rest) a w :=
 wpList_st1 ho hS hw hx hy hm (Nat.le_of_ble_eq_true rfl) (cos_set5 r v) infoInt1 (by simp [Value.cells, Value.oneCell']) h
theorem cos_s1_6 {x y : Operand} (ho : o.op = .store 3 x y) (hS : St L w0 rows w) (hw : Region.wanted o (yielded ops a.tmps) = true) {g : Nat} (hx : a.eval x = .pointer (some ⟨g, 6, none⟩)) {v : Int} (hy : a.eval y = .int .i64 v) {r : Co} {T' : Nat} {rows' : List Row} (hm : RowSet g (Co.cells r) (Co.cells ⟨r.g, r.x, r.c0, r.c1, r.c2, r.c3, v⟩) T' rows rows') (h : St L w0 rows' (w.setRow g (Co.cells ⟨r.g, r.x, r.c0, r.c1, r.c2, r.c3, v⟩)) → wpList Tryz.prog ops Q rest (a.put o.dst undef) (w.setRow g (Co.cells ⟨r.g, r.x, r.c0, r.c1, r.c2, r.c3, v⟩))) : wpList Tryz.prog ops Q (o :: rest) a w :=
 wpList_st1 ho hS hw hx hy hm (Nat.le_of_ble_eq_true rfl) (cos_set6 r v) infoInt1 (by simp [Value.cells, Value.oneCell']) h
end
theorem scal5 : ∃ d, Tryz.prog.underlying 5 = some d ∧ d.isRow = false := ⟨_, Tryz.underlying5, rfl⟩
theorem dropX : ∀ (s : Str) (k : Nat), k < (s.takeWhile isX).length → s.drop k = 88 :: s.drop (k + 1)
 | [], k, h => by simp at h
 | b :: s, k, h => by
   rw [List.takeWhile_cons] at h
   split at h
   ·rename_i hb
    cases k with
    | zero => simp only [isX, beq_iff_eq] at hb; simp [hb]
    | succ k => simpa using dropX s k (by simpa using h)
   ·simp at h
theorem dropN : ∀ s : Str, s.drop (s.takeWhile isX).length = coRest s
 | [] => rfl
 | b :: s => by
   unfold coRest
   rw [List.takeWhile_cons, List.dropWhile_cons]
   split
   ·simpa [coRest] using dropN s
   ·rfl
theorem restX (s : Str) : Lib.hasPrefix (coRest s) [88] = false := by
 have : ∀ s : Str, Lib.hasPrefix (s.dropWhile isX) [88] = false := by
  intro s
  induction s with
  | nil => rfl
  | cons b s ih =>
    rw [List.dropWhile_cons]
    split
    ·exact ih
    ·rename_i hb
     simp only [isX, beq_iff_eq] at hb
     cases hp : Lib.hasPrefix (b :: s) [88] with
     | false => rfl
     | true =>
       simp [Lib.hasPrefix] at hp
       exact absurd hp.symm hb
 exact this s
theorem hasX_one (s : Str) : Lib.hasPrefix (88 :: s) [88] = true := by simp [Lib.hasPrefix]
theorem markN : ∀ s : Str, s.take (s.takeWhile notLet).length = s.takeWhile notLet ∧ s.drop (s.takeWhile notLet).length = s.dropWhile notLet
 | [] => ⟨rfl, rfl⟩
 | b :: s => by
   rw [List.takeWhile_cons, List.dropWhile_cons]
   split
   ·simpa using markN s
   ·exact ⟨rfl, rfl⟩
theorem letIx_no {b : UInt8} (h : isLet b = false) : Lib.indexByte letL b = -1 := by
 have hc := contains_byte b
 have : letL.contains b = isLet b := by unfold isLet; rw [Bool.eq_iff_iff]; simp [letL, List.contains_cons]
 rw [this, h] at hc
 have := Lib.indexByte_ge letL b
 simp at hc
 omega
theorem hasX_is (s : ByteArray) (b : Bool) (h : Hid (Lib.hasPrefix (L s) [88] = b)) (w : World) : Calls Tryz.prog 170 #[.string s, .string ⟨#[88]⟩] w fun e w' => e = .returned (.bool b) ∧ w = w' := hasPre_is s ⟨#[88]⟩ w [88] rfl b h
theorem letIx_is (b : UInt8) (i : Int) (h : Hid (Lib.indexByte letL b = i)) (w : World) : Calls Tryz.prog 89 #[.string ⟨#[65, 67, 74, 82, 69]⟩, .int .u8 (b.toNat : Int)] w fun e w' => e = .returned (.int .i64 i) ∧ w = w' :=
 (indexByte_any letB b w).mono fun _ _ h' => ⟨h'.1.trans (by rw [← h.out]; rfl), h'.2⟩
theorem let0_is (w : World) : Calls Tryz.prog 89 #[.string ⟨#[65, 67, 74, 82, 69]⟩, .int .u8 65] w fun e w' => e = .returned (.int .i64 0) ∧ w = w' := letIx_is 65 0 (Lib.hid (by decide)) w
theorem let1_is (w : World) : Calls Tryz.prog 89 #[.string ⟨#[65, 67, 74, 82, 69]⟩, .int .u8 67] w fun e w' => e = .returned (.int .i64 1) ∧ w = w' := letIx_is 67 1 (Lib.hid (by decide)) w
theorem let2_is (w : World) : Calls Tryz.prog 89 #[.string ⟨#[65, 67, 74, 82, 69]⟩, .int .u8 74] w fun e w' => e = .returned (.int .i64 2) ∧ w = w' := letIx_is 74 2 (Lib.hid (by decide)) w
theorem let3_is (w : World) : Calls Tryz.prog 89 #[.string ⟨#[65, 67, 74, 82, 69]⟩, .int .u8 82] w fun e w' => e = .returned (.int .i64 3) ∧ w = w' := letIx_is 82 3 (Lib.hid (by decide)) w
theorem let4_is (w : World) : Calls Tryz.prog 89 #[.string ⟨#[65, 67, 74, 82, 69]⟩, .int .u8 69] w fun e w' => e = .returned (.int .i64 4) ∧ w = w' := letIx_is 69 4 (Lib.hid (by decide)) w
def coRet (o : Option Co) : Value := match o with | some c => .tuple #[.agg c.cells, .int .i64 0] | none => .tuple #[.agg zeroCo.cells, .int .i64 3]
theorem cell_setRow_other (w : World) (g : Nat) (new : Array Value) (D i : Nat) (h : D ≠ g) : (w.setRow g new).cell? ⟨D, i, none⟩ = w.cell? ⟨D, i, none⟩ := by
 simp [World.cell?, setRow_other w g D new h]
def strSz : Value → Nat | .string b => b.size | _ => 0
theorem coParse_walk (s : Str) (hs : s.length < 100000000) (w0 : World) (hl : Laid w0) (R : Option Co) (HR : Hid (coParse s = R)) : Calls Tryz.prog 142 #[.string (B s)] w0 fun e w' => e = .returned (coRet R) ∧ Below w0.heap.size w0 w' := by
 have hS := St.start hl keepsL
 obtain ⟨N, hN⟩ : ∃ N, (s.takeWhile isX).length = N := ⟨_, rfl⟩
 have hNs : N ≤ s.length := by rw [← hN]; exact (List.takeWhile_prefix _).length_le
 have HN := Lib.hid hN
 clear hN
 go_enter Tryz.func142, Tryz.ntmps142
 go_wp2_with (first | ((with_reducible refine at_alloc ?_); (first | (refine wpList_new 86 rfl hS rfl _ cos_new ?_; intro g w hS)); (try simp only [put0, put1, put2, put3, put4])))
 rename_i g2 wq hSq K1 hK1
 clear hSq
 generalize g = g4 at *
 go_loopw [5] (fun rv wr => ∃ k : Nat, k ≤ N ∧ rv = .string (B (s.drop k)) ∧ Hid (St Laid w0 [(g4, Co.cells ⟨0, k, 0, 0, 0, 0, 0⟩, 86), (g2, zeroCo.cells, 86)] wr)) (fun rv _ => strSz rv)
 case atStart => exact ⟨0, by omega, by simp, Lib.hid hS⟩
 case round =>
  clear hS
  obtain ⟨k, hk, rfl, HS⟩ := hrel
  have hS := HS.out
  clear HS
  by_cases hlt : k < N
  ·have hd := dropX s k (by rw [HN.out]; exact hlt)
   obtain ⟨X, hX⟩ : ∃ X, B (s.drop k) = X := ⟨_, rfl⟩
   have HP : Hid (Lib.hasPrefix (L X) [88] = true) := Lib.hid (by rw [← hX, L_B, hd]; exact hasX_one _)
   have hsz : X.size = s.length - k := by rw [← hX, B_size, List.length_drop]
   have E1 : Hid (X.extract 1 X.size = B (s.drop (k + 1))) := Lib.hid (L_inj (by
    rw [L_extract, L_B, ← hX, L_B, B_size, List.take_of_length_le (Nat.le_refl _), List.drop_drop]))
   have h1 : 1 ≤ X.size := by omega
   rw [hX]
   clear hd hX
   go_wp2_with (first | (go_at_call 170; (with_reducible refine (St.still hS fun hl => hasX_is _ _ HP _).mono ?_); rintro e w ⟨rfl, hS⟩) | ((with_reducible refine at_load ?_); (first | (refine cos_ld1 rfl hS rfl rfl (by repeat constructor) ?_)); (try simp only [put0, put1, put2, put3, put4])) | ((with_reducible refine at_store ?_); (first | (refine cos_st1 rfl hS rfl rfl rfl (by repeat constructor) ?_; intro w hS)); (try simp only [put0, put1, put2, put3, put4])))
   go_roundw
   case rel => exact ⟨k + 1, by omega, by rw [← hsz, E1.out], Lib.hid (by push_cast; exact hS)⟩
   case measure => simp [strSz]; omega
  ·obtain rfl : k = N := by omega
   have hd := dropN s
   rw [HN.out] at hd
   obtain ⟨X, hX⟩ : ∃ X, coRest s = X := ⟨_, rfl⟩
   have HX := Lib.hid hX
   have HP : Hid (Lib.hasPrefix (L (B X)) [88] = false) := Lib.hid (by rw [L_B, ← hX]; exact restX s)
   have hXl : X.length ≤ s.length := by rw [← hX, ← hd, List.length_drop]; omega
   rw [hd, hX]
   clear hd hX
   obtain ⟨M, hM⟩ : ∃ M, (X.takeWhile notLet).length = M := ⟨_, rfl⟩
   have hMX : M ≤ X.length := by rw [← hM]; exact (List.takeWhile_prefix _).length_le
   obtain ⟨m1, m2⟩ := markN X
   rw [hM] at m1 m2
   have hbz : (B X).size = X.length := B_size X
   have E2 : (B X).extract 0 M = B (X.takeWhile notLet) := L_inj (by rw [L_extract, L_B, L_B, List.drop_zero, m1])
   have E3 : (B X).extract M X.length = B (X.dropWhile notLet) := L_inj (by rw [L_extract, L_B, L_B, List.take_of_length_le (Nat.le_refl _), m2])
   have hidx : ∀ w, Laid w → Calls Tryz.prog 185 #[.string (B (X ++ [65])), .string ⟨#[65, 67, 74, 82, 69]⟩] w fun e w' => e = .returned (.int .i64 (M : Int)) ∧ Below w.heap.size w w' := fun w hl => hM ▸ idxMark_any X w hl (by omega)
   obtain ⟨G, hG⟩ : ∃ G : Int, (numOf (X.takeWhile notLet)).getD 0 = G := ⟨_, rfl⟩
   obtain ⟨gb, hgb⟩ : ∃ b, (numOf (X.takeWhile notLet)).isSome = b := ⟨_, rfl⟩
   have hnum : ∀ w, Laid w → Calls Tryz.prog 179 #[.string (B (X.takeWhile notLet))] w fun e w' => e = .returned (.tuple #[.int .i64 G, .bool gb]) ∧ Below w.heap.size w w' := fun w hl => hG ▸ hgb ▸ numO_any (X.takeWhile notLet) (by have := (List.takeWhile_prefix notLet (l := X)).length_le; omega) w hl
   have HG := Lib.hid hG
   obtain ⟨A, hA⟩ : ∃ A, X.dropWhile notLet = A := ⟨_, rfl⟩
   obtain ⟨Y, hY⟩ : ∃ Y, X.takeWhile notLet = Y := ⟨_, rfl⟩
   have HA := Lib.hid (show coLets s = A by unfold coLets; rw [HX.out, hA])
   have HM : Hid (coMark s = Y) := Lib.hid (by unfold coMark; rw [HX.out, hY])
   have hAl : A.length ≤ X.length := by rw [← hA]; exact (List.dropWhile_suffix _).length_le
   rw [hA] at E3
   rw [hY] at E2 hnum HG
   clear hgb hG hA hY hM m1 m2
   have hc2 := fun wx => Lib.run_convert_string_bytes (P := Tryz.prog) wx 9 119 5 (B A) Tryz.underlying9 Tryz.underlying119 Tryz.underlying5
   go_wp2_with (first | (go_at_call 170; (with_reducible refine (St.still hS fun hl => hasX_is _ _ HP _).mono ?_); rintro e w ⟨rfl, hS⟩) | (go_at_call 185; (with_reducible refine (St.call hS fun hl => hidx _ hl).mono ?_); rintro e w ⟨rfl, hS⟩) | (go_at_call 179; (with_reducible refine (St.call hS fun hl => hnum _ hl).mono ?_); rintro e w ⟨rfl, hS⟩) | ((with_reducible refine at_cat ?_); (first | (refine wpList_cat rfl rfl rfl rfl (by first | (simp only [List.length_append, List.length_cons, List.length_nil]; omega) | fail) ?_)); (try simp only [put0, put1, put2, put3, put4])) | ((with_reducible refine at_store ?_); (first | (refine cos_st0 rfl hS rfl rfl rfl (by repeat constructor) ?_; intro w hS)); (try simp only [put0, put1, put2, put3, put4])))
   have hb := bytesWorld_below w 5 (B A)
   have hcell := fun (j : Nat) (hj : j < A.length) => bytesWorld_at w 5 (B A) j (by rw [B_size]; exact hj)
   rw [L_B] at hcell
   have hgD : w.heap.size ≠ g4 := by
    have := (Array.getElem?_eq_some_iff.1 (hS.row .head)).1; omega
   have hS2 := hS.mono hb
   clear hc2 hb hS E2 E3 hnum hidx
   generalize grownCap w A.length 0 5 = cap
   generalize Lib.bytesWorld w 5 (B A) = W at *
   generalize w.heap.size = D at *
   go_loopw [35] (fun iv wr => ∃ j : Nat, j ≤ A.length ∧ iv = .int .i64 j ∧ Hid ((A.take j).all isLet = true) ∧ Hid (St Laid w0 [(g4, Co.cells ⟨G, k, ((A.take j).count 65 : Nat), ((A.take j).count 67 : Nat), ((A.take j).count 74 : Nat), ((A.take j).count 82 : Nat), ((A.take j).count 69 : Nat)⟩, 86), (g2, zeroCo.cells, 86)] wr) ∧ Hid (∀ i, i < A.length → wr.cell? ⟨D, i, none⟩ = some (.int .u8 (byt A i : Nat)))) (fun iv _ => A.length - (intOf iv).toNat)
   case atStart => exact ⟨0, by omega, rfl, Lib.hid rfl, Lib.hid hS2, Lib.hid hcell⟩
   case round =>
    clear hS2 hcell
    obtain ⟨j, hj, rfl, HAll, HS, HB⟩ := hrel
    have hS := HS.out
    clear HS
    by_cases hlt : j < A.length
    ·obtain ⟨b, hbj⟩ : ∃ b, A[j]? = some b := ⟨A[j], List.getElem?_eq_getElem hlt⟩
     have hbt : byt A j = b.toNat := by
      unfold byt; rw [List.getD_eq_getElem?_getD, hbj]; rfl
     have HC := Lib.hid (HB.out j hlt)
     rw [hbt] at HC
     have HT : Hid (A.take (j + 1) = A.take j ++ [b]) := Lib.hid (by rw [List.take_succ, hbj]; rfl)
     have hle : (A.take j).length ≤ 100000000 := by rw [List.length_take]; omega
     obtain ⟨n0, h0⟩ : ∃ n, (A.take j).count 65 = n := ⟨_, rfl⟩
     obtain ⟨n1, h1⟩ : ∃ n, (A.take j).count 67 = n := ⟨_, rfl⟩
     obtain ⟨n2, h2⟩ : ∃ n, (A.take j).count 74 = n := ⟨_, rfl⟩
     obtain ⟨n3, h3⟩ : ∃ n, (A.take j).count 82 = n := ⟨_, rfl⟩
     obtain ⟨n4, h4⟩ : ∃ n, (A.take j).count 69 = n := ⟨_, rfl⟩
     rw [h0, h1, h2, h3, h4] at hS
     have b0 : n0 ≤ 100000000 := by rw [← h0]; exact Nat.le_trans List.count_le_length hle
     have b1 : n1 ≤ 100000000 := by rw [← h1]; exact Nat.le_trans List.count_le_length hle
     have b2 : n2 ≤ 100000000 := by rw [← h2]; exact Nat.le_trans List.count_le_length hle
     have b3 : n3 ≤ 100000000 := by rw [← h3]; exact Nat.le_trans List.count_le_length hle
     have b4 : n4 ≤ 100000000 := by rw [← h4]; exact Nat.le_trans List.count_le_length hle
     have H0 := Lib.hid h0
     have H1 := Lib.hid h1
     have H2 := Lib.hid h2
     have H3 := Lib.hid h3
     have H4 := Lib.hid h4
     clear h0 h1 h2 h3 h4 hbt
     cases hlb : isLet b with
     | false =>
       have HI := Lib.hid (letIx_no hlb)
       have HE : Hid (R = none) := Lib.hid (by
        rw [← HR.out]; unfold coParse; rw [if_neg]
        rintro ⟨_, ha, _⟩
        rw [HA.out] at ha
        have := List.all_eq_true.1 ha b (List.mem_of_getElem? hbj)
        rw [hlb] at this; cases this)
       have he := HE.out
       subst he
       clear hbj hlb
       go_wp2_with (first | ((with_reducible refine at_load ?_); refine wpList_ld_known rfl rfl rfl scal5 HC.out ?_; (try simp only [put0, put1, put2, put3, put4])) | (go_at_call 89; (with_reducible refine (letIx_is _ _ HI _).mono ?_); rintro e w ⟨rfl, rfl⟩) | ((with_reducible refine cos_shape_ ?_); refine cos_bld_ rfl ?_; (try simp only [put0, put1, put2, put3, put4])) | ((with_reducible refine at_store ?_); (first | (refine cos_stw rfl hS rfl rfl rfl (by repeat constructor) ?_; intro w hS)); (try simp only [put0, put1, put2, put3, put4])))
       all_goals (refine cos_res2 hS rfl rfl (by repeat constructor) rfl rfl (fun hb => ⟨rfl, hb⟩))
     | true =>
       clear hbj
       unfold isLet at hlb
       simp only [Bool.or_eq_true, beq_iff_eq] at hlb
       rcases hlb with rfl | rfl | rfl | rfl | rfl
       ·
        go_wp2_with (first | ((with_reducible refine at_load ?_); refine wpList_ld_known rfl rfl rfl scal5 HC.out ?_; (try simp only [put0, put1, put2, put3, put4])) | (go_at_call 89; (with_reducible refine (let0_is _).mono ?_); rintro e w ⟨rfl, rfl⟩) | ((with_reducible refine at_store ?_); refine cos_s1_2 rfl hS rfl rfl rfl .head ?_; intro hS) | ((with_reducible refine at_load ?_); (first | (refine cos_ld2 rfl hS rfl rfl (by repeat constructor) ?_)); (try simp only [put0, put1, put2, put3, put4])))
        go_roundw
        case rel => exact ⟨j + 1, by omega, by go_num, Lib.hid (by rw [HT.out, List.all_append, HAll.out]; rfl), Lib.hid (by rw [HT.out]; simpa [List.count_append, H0.out, H1.out, H2.out, H3.out, H4.out] using hS), Lib.hid (fun i hi => (cell_setRow_other _ _ _ _ _ hgD).trans (HB.out i hi))⟩
        case measure => simp [intOf]; omega
       ·
        go_wp2_with (first | ((with_reducible refine at_load ?_); refine wpList_ld_known rfl rfl rfl scal5 HC.out ?_; (try simp only [put0, put1, put2, put3, put4])) | (go_at_call 89; (with_reducible refine (let1_is _).mono ?_); rintro e w ⟨rfl, rfl⟩) | ((with_reducible refine at_store ?_); refine cos_s1_3 rfl hS rfl rfl rfl .head ?_; intro hS) | ((with_reducible refine at_load ?_); (first | (refine cos_ld3 rfl hS rfl rfl (by repeat constructor) ?_)); (try simp only [put0, put1, put2, put3, put4])))
        go_roundw
        case rel => exact ⟨j + 1, by omega, by go_num, Lib.hid (by rw [HT.out, List.all_append, HAll.out]; rfl), Lib.hid (by rw [HT.out]; simpa [List.count_append, H0.out, H1.out, H2.out, H3.out, H4.out] using hS), Lib.hid (fun i hi => (cell_setRow_other _ _ _ _ _ hgD).trans (HB.out i hi))⟩
        case measure => simp [intOf]; omega
       ·
        go_wp2_with (first | ((with_reducible refine at_load ?_); refine wpList_ld_known rfl rfl rfl scal5 HC.out ?_; (try simp only [put0, put1, put2, put3, put4])) | (go_at_call 89; (with_reducible refine (let2_is _).mono ?_); rintro e w ⟨rfl, rfl⟩) | ((with_reducible refine at_store ?_); refine cos_s1_4 rfl hS rfl rfl rfl .head ?_; intro hS) | ((with_reducible refine at_load ?_); (first | (refine cos_ld4 rfl hS rfl rfl (by repeat constructor) ?_)); (try simp only [put0, put1, put2, put3, put4])))
        go_roundw
        case rel => exact ⟨j + 1, by omega, by go_num, Lib.hid (by rw [HT.out, List.all_append, HAll.out]; rfl), Lib.hid (by rw [HT.out]; simpa [List.count_append, H0.out, H1.out, H2.out, H3.out, H4.out] using hS), Lib.hid (fun i hi => (cell_setRow_other _ _ _ _ _ hgD).trans (HB.out i hi))⟩
        case measure => simp [intOf]; omega
       ·
        go_wp2_with (first | ((with_reducible refine at_load ?_); refine wpList_ld_known rfl rfl rfl scal5 HC.out ?_; (try simp only [put0, put1, put2, put3, put4])) | (go_at_call 89; (with_reducible refine (let3_is _).mono ?_); rintro e w ⟨rfl, rfl⟩) | ((with_reducible refine at_store ?_); refine cos_s1_5 rfl hS rfl rfl rfl .head ?_; intro hS) | ((with_reducible refine at_load ?_); (first | (refine cos_ld5 rfl hS rfl rfl (by repeat constructor) ?_)); (try simp only [put0, put1, put2, put3, put4])))
        go_roundw
        case rel => exact ⟨j + 1, by omega, by go_num, Lib.hid (by rw [HT.out, List.all_append, HAll.out]; rfl), Lib.hid (by rw [HT.out]; simpa [List.count_append, H0.out, H1.out, H2.out, H3.out, H4.out] using hS), Lib.hid (fun i hi => (cell_setRow_other _ _ _ _ _ hgD).trans (HB.out i hi))⟩
        case measure => simp [intOf]; omega
       ·
        go_wp2_with (first | ((with_reducible refine at_load ?_); refine wpList_ld_known rfl rfl rfl scal5 HC.out ?_; (try simp only [put0, put1, put2, put3, put4])) | (go_at_call 89; (with_reducible refine (let4_is _).mono ?_); rintro e w ⟨rfl, rfl⟩) | ((with_reducible refine at_store ?_); refine cos_s1_6 rfl hS rfl rfl rfl .head ?_; intro hS) | ((with_reducible refine at_load ?_); (first | (refine cos_ld6 rfl hS rfl rfl (by repeat constructor) ?_)); (try simp only [put0, put1, put2, put3, put4])))
        go_roundw
        case rel => exact ⟨j + 1, by omega, by go_num, Lib.hid (by rw [HT.out, List.all_append, HAll.out]; rfl), Lib.hid (by rw [HT.out]; simpa [List.count_append, H0.out, H1.out, H2.out, H3.out, H4.out] using hS), Lib.hid (fun i hi => (cell_setRow_other _ _ _ _ _ hgD).trans (HB.out i hi))⟩
        case measure => simp [intOf]; omega
    ·obtain rfl : j = A.length := by omega
     rw [List.take_length] at hS
     have hAll := HAll.out
     rw [List.take_length] at hAll
     have hgu : guessCo s = ⟨G, k, (A.count 65 : Nat), (A.count 67 : Nat), (A.count 74 : Nat), (A.count 82 : Nat), (A.count 69 : Nat)⟩ := by
      unfold guessCo; rw [HM.out, HA.out, HN.out, HG.out]
     obtain ⟨T, hT⟩ : ∃ T, coText ⟨G, k, (A.count 65 : Nat), (A.count 67 : Nat), (A.count 74 : Nat), (A.count 82 : Nat), (A.count 69 : Nat)⟩ = T := ⟨_, rfl⟩
     have hR := HR.out
     unfold coParse at hR
     rw [hgu, HA.out, hT] at hR
     have HT := Lib.hid hT
     clear hT HAll HB hgu HG HM HA
     generalize (A.count 65 : Nat) = n0 at *
     generalize (A.count 67 : Nat) = n1 at *
     generalize (A.count 74 : Nat) = n2 at *
     generalize (A.count 82 : Nat) = n3 at *
     generalize (A.count 69 : Nat) = n4 at *
     by_cases h0 : s = []
     ·rw [if_neg (fun h => h.1 h0)] at hR
      subst hR h0
      go_wp2_with (first | ((with_reducible refine at_guard ?_); (first | (refine wpList_pass rfl ?_)); (try simp only [put0, put1, put2, put3, put4])) | ((with_reducible refine cos_shape_ ?_); refine cos_bld_ rfl ?_; (try simp only [put0, put1, put2, put3, put4])) | ((with_reducible refine at_store ?_); (first | (refine cos_stw rfl hS rfl rfl rfl (by repeat constructor) ?_; intro w hS)); (try simp only [put0, put1, put2, put3, put4])))
      all_goals (refine cos_res2 hS rfl rfl (by repeat constructor) rfl rfl (fun hb => ⟨rfl, hb⟩))
     ·have h1 : (s == []) = false := by simpa using h0
      by_cases hx : T = s
      ·rw [if_pos ⟨h0, hAll, hx⟩] at hR
       subst hR hx
       have ht : (T == T) = true := by simp
       go_wp2_with (first | (go_at_call 68; (with_reducible refine (St.call hS fun hl => coText_is _ _ HT _ hl).mono ?_); rintro e w ⟨rfl, hS⟩) | ((with_reducible refine at_load ?_); (first | (refine cos_ldw rfl hS rfl rfl (by repeat constructor) ?_)); (try simp only [put0, put1, put2, put3, put4])) | ((with_reducible refine at_store ?_); (first | (refine cos_stw rfl hS rfl rfl rfl (by repeat constructor) ?_; intro w hS)); (try simp only [put0, put1, put2, put3, put4])))
       all_goals (refine cos_res2 hS rfl rfl (by repeat constructor) rfl rfl (fun hb => ⟨rfl, hb⟩))
      ·rw [if_neg (fun h => hx h.2.2)] at hR
       subst hR
       have hx' : (T == s) = false := by simpa using hx
       go_wp2_with (first | (go_at_call 68; (with_reducible refine (St.call hS fun hl => coText_is _ _ HT _ hl).mono ?_); rintro e w ⟨rfl, hS⟩) | ((with_reducible refine cos_shape_ ?_); refine cos_bld_ rfl ?_; (try simp only [put0, put1, put2, put3, put4])) | ((with_reducible refine at_load ?_); (first | (refine cos_ldw rfl hS rfl rfl (by repeat constructor) ?_)); (try simp only [put0, put1, put2, put3, put4])) | ((with_reducible refine at_store ?_); (first | (refine cos_stw rfl hS rfl rfl rfl (by repeat constructor) ?_; intro w hS)); (try simp only [put0, put1, put2, put3, put4])))
       all_goals (refine cos_res2 hS rfl rfl (by repeat constructor) rfl rfl (fun hb => ⟨rfl, hb⟩))
end Go.Proofs.YtdnnbfbhifelkaaGreatDoor
namespace Go.Proofs.YtdnnbfbhifelkaaGreatDoor
attribute [local irreducible] wpList Code.wp Calls
open Go.ChangeShapes Go.WideShapes Go.RowKit
def poRet (o : Option Po) : Value := match o with | some c => .tuple #[.agg c.cells, .int .i64 0] | none => .tuple #[.agg zeroPo.cells, .int .i64 3]
theorem coParse_some (s : Str) (hs : s.length < 100000000) (c : Co) (h : Hid (coParse s = some c)) (w : World) (hl : Laid w) : Calls Tryz.prog 142 #[.string (B s)] w fun e w' => e = .returned (.tuple #[.agg c.cells, .int .i64 0]) ∧ Below w.heap.size w w' := coParse_walk s hs w hl (some c) h
theorem coParse_none (s : Str) (hs : s.length < 100000000) (h : Hid (coParse s = none)) (w : World) (hl : Laid w) : Calls Tryz.prog 142 #[.string (B s)] w fun e w' => e = .returned (.tuple #[.agg zeroCo.cells, .int .i64 3]) ∧ Below w.heap.size w w' := coParse_walk s hs w hl none h
theorem poParse_any (s : Str) (hs : s.length < 100000000) (w0 : World) (hl : Laid w0) : Calls Tryz.prog 87 #[.string (B s)] w0 fun e w' => e = .returned (poRet (poParse s)) ∧ Below w0.heap.size w0 w' := by
 cases hc : coParse s with
 | none =>
   rw [show poParse s = none by unfold poParse; rw [hc]]
   have HC := Lib.hid hc
   clear hc
   have hS := St.start hl keepsL
   go_enter Tryz.func87, Tryz.ntmps87
   go_wp2_with (first | (go_at_call 142; (with_reducible refine (St.call hS fun hl => coParse_none s hs HC _ hl).mono ?_); rintro e w ⟨rfl, hS⟩) | ((with_reducible refine at_copy ?_); refine wpList_cp _ _ rfl rfl hS rfl rfl [.int .i64 0, .int .i64 0, .int .i64 0, .int .i64 0, .int .i64 0] rfl (.tail .head) (fun j v h => by match j, h with | 0, h => exact h | 1, h => exact h | 2, h => exact h | 3, h => exact h | 4, h => exact h | j + 5, h => cases h) (new := Po.cells ⟨0, 0, 0, 0, 0, 0⟩) .head (Nat.le_of_ble_eq_true rfl) rfl (by simp [Value.oneCell']) ?_; intro w hS) | ((with_reducible refine at_alloc ?_); (first | (refine wpList_new 86 rfl hS rfl _ cos_new ?_; intro g w hS) | (refine wpList_new 31 rfl hS rfl _ pol_new ?_; intro g w hS)); (try simp only [put0, put1, put2, put3, put4])) | ((with_reducible refine pol_shape_ ?_); refine pol_bld_ rfl ?_; (try simp only [put0, put1, put2, put3, put4])) | ((with_reducible refine pol_shape_0 ?_); refine pol_bld_0 rfl rfl ?_; (try simp only [put0, put1, put2, put3, put4])) | ((with_reducible refine at_load ?_); (first | (refine cos_ld0 rfl hS rfl rfl (by repeat constructor) ?_)); (try simp only [put0, put1, put2, put3, put4])) | ((with_reducible refine at_store ?_); (first | (refine cos_stw rfl hS rfl rfl rfl (by repeat constructor) ?_; intro w hS) | (refine pol_stw rfl hS rfl rfl rfl (by repeat constructor) ?_; intro w hS)); (try simp only [put0, put1, put2, put3, put4])) | ((with_reducible refine region_here ?_); refine wp_region_X1 3 rfl hS (by kernel_rfl) (by kernel_rfl) (by kernel_rfl) (by decide +kernel) (by kernel_rfl) ?_; (simp only [List.take_succ_cons, List.take_zero, List.drop_succ_cons, List.drop_zero])) | ((with_reducible refine xat_nil ?_); refine runX_end ?_; intro w hS) | ((with_reducible refine xat_any ?_); (refine runX_pure (v := ?_) rfl (fun _ _ _ h => h) ?_ ?_; rotate_left; (focus ((intro w; go_simp) <;> with_reducible rfl))); (try simp only [put0, put1, put2, put3, put4])) | ((with_reducible refine region_here ?_); refine wp_region_St hS (by kernel_rfl) (by kernel_rfl) ?_) | ((with_reducible refine runS_end ?_); intro w hS) | ((with_reducible refine rat_guard ?_); (first | (refine runS_pass rfl (fun _ _ _ h => h) ?_)); (try simp only [put0, put1, put2, put3, put4])) | ((with_reducible refine runS_here ?_); (refine runS_val (v := ?_) rfl (fun _ _ _ h => h) ?_ ?_; rotate_left; (focus ((intro w hS; go_simp) <;> with_reducible rfl))); (try simp only [put0, put1, put2, put3, put4])))
   all_goals (refine pol_res2 hS rfl rfl (by repeat constructor) rfl rfl (fun hb => ⟨rfl, hb⟩))
 | some c =>
   obtain ⟨cg, cx, c0, c1, c2, c3, c4⟩ := c
   have HC := Lib.hid hc
   have hne := fun wx => neq_co (coOf ⟨cg, c0, c1, c2, c3, c4⟩) ⟨cg, cx, c0, c1, c2, c3, c4⟩ wx
   by_cases hx : cx = 0
   ·rw [show poParse s = some ⟨cg, c0, c1, c2, c3, c4⟩ by unfold poParse; rw [hc]; exact if_pos hx]
    subst hx
    rw [show coEq (coOf ⟨cg, c0, c1, c2, c3, c4⟩) ⟨cg, 0, c0, c1, c2, c3, c4⟩ = true from coEq_refl _] at hne
    clear hc
    have hS := St.start hl keepsL
    go_enter Tryz.func87, Tryz.ntmps87
    go_wp2_with (first | (go_at_call 142; (with_reducible refine (St.call hS fun hl => coParse_some s hs _ HC _ hl).mono ?_); rintro e w ⟨rfl, hS⟩) | ((with_reducible refine at_copy ?_); refine wpList_cp _ _ rfl rfl hS rfl rfl [.int .i64 c0, .int .i64 c1, .int .i64 c2, .int .i64 c3, .int .i64 c4] rfl (.tail .head) (fun j v h => by match j, h with | 0, h => exact h | 1, h => exact h | 2, h => exact h | 3, h => exact h | 4, h => exact h | j + 5, h => cases h) (new := Po.cells ⟨cg, c0, c1, c2, c3, c4⟩) .head (Nat.le_of_ble_eq_true rfl) rfl (by simp [Value.oneCell']) ?_; intro w hS) | ((with_reducible refine at_alloc ?_); (first | (refine wpList_new 86 rfl hS rfl _ cos_new ?_; intro g w hS) | (refine wpList_new 31 rfl hS rfl _ pol_new ?_; intro g w hS)); (try simp only [put0, put1, put2, put3, put4])) | ((with_reducible refine pol_shape_0 ?_); refine pol_bld_0 rfl rfl ?_; (try simp only [put0, put1, put2, put3, put4])) | ((with_reducible refine at_load ?_); (first | (refine cos_ld0 rfl hS rfl rfl (by repeat constructor) ?_) | (refine pol_ldw rfl hS rfl rfl (by repeat constructor) ?_)); (try simp only [put0, put1, put2, put3, put4])) | ((with_reducible refine at_store ?_); (first | (refine cos_stw rfl hS rfl rfl rfl (by repeat constructor) ?_; intro w hS) | (refine pol_stw rfl hS rfl rfl rfl (by repeat constructor) ?_; intro w hS)); (try simp only [put0, put1, put2, put3, put4])) | ((with_reducible refine region_here ?_); refine wp_region_X1 3 rfl hS (by kernel_rfl) (by kernel_rfl) (by kernel_rfl) (by decide +kernel) (by kernel_rfl) ?_; (simp only [List.take_succ_cons, List.take_zero, List.drop_succ_cons, List.drop_zero])) | ((with_reducible refine xat_nil ?_); refine runX_end ?_; intro w hS) | ((with_reducible refine xat_any ?_); (refine runX_pure (v := ?_) rfl (fun _ _ _ h => h) ?_ ?_; rotate_left; (focus ((intro w; go_simp) <;> with_reducible rfl))); (try simp only [put0, put1, put2, put3, put4])) | ((with_reducible refine region_here ?_); refine wp_region_St hS (by kernel_rfl) (by kernel_rfl) ?_) | ((with_reducible refine runS_end ?_); intro w hS) | ((with_reducible refine rat_load ?_); (first | (refine cos_rlw rfl rfl rfl (by repeat constructor) (fun _ _ _ h => h) ?_) | (refine pol_rlw rfl rfl rfl (by repeat constructor) (fun _ _ _ h => h) ?_)); (try simp only [put0, put1, put2, put3, put4])) | ((with_reducible refine rat_call ?_); (first | (refine runS_call (v := ?_) (args := ?_) 69 rfl (fun _ _ _ h => h) ?_ ?_ ?_; rotate_left 2; (focus ((intro w; go_simp) <;> with_reducible rfl)); (focus (intro w hS; refine St.callE hS (fun hl => coCost_any _ _ hl) ?_; with_reducible rfl)))); (try simp only [put0, put1, put2, put3, put4])) | ((with_reducible refine runS_here ?_); (refine runS_val (v := ?_) rfl (fun _ _ _ h => h) ?_ ?_; rotate_left; (focus ((intro w hS; go_simp) <;> with_reducible rfl))); (try simp only [put0, put1, put2, put3, put4])))
    all_goals (refine pol_res2 hS rfl rfl (by repeat constructor) rfl rfl (fun hb => ⟨rfl, hb⟩))
   ·rw [show poParse s = none by unfold poParse; rw [hc]; exact if_neg hx]
    rw [show coEq (coOf ⟨cg, c0, c1, c2, c3, c4⟩) ⟨cg, cx, c0, c1, c2, c3, c4⟩ = false by
     cases h : coEq (coOf ⟨cg, c0, c1, c2, c3, c4⟩) ⟨cg, cx, c0, c1, c2, c3, c4⟩ with
     | false => rfl
     | true =>
       have := (coEq_iff _ _).1 h
       injection this with _ h2
       exact absurd h2.symm hx] at hne
    clear hc
    have hS := St.start hl keepsL
    go_enter Tryz.func87, Tryz.ntmps87
    go_wp2_with (first | (go_at_call 142; (with_reducible refine (St.call hS fun hl => coParse_some s hs _ HC _ hl).mono ?_); rintro e w ⟨rfl, hS⟩) | ((with_reducible refine at_copy ?_); refine wpList_cp _ _ rfl rfl hS rfl rfl [.int .i64 c0, .int .i64 c1, .int .i64 c2, .int .i64 c3, .int .i64 c4] rfl (.tail .head) (fun j v h => by match j, h with | 0, h => exact h | 1, h => exact h | 2, h => exact h | 3, h => exact h | 4, h => exact h | j + 5, h => cases h) (new := Po.cells ⟨cg, c0, c1, c2, c3, c4⟩) .head (Nat.le_of_ble_eq_true rfl) rfl (by simp [Value.oneCell']) ?_; intro w hS) | ((with_reducible refine at_alloc ?_); (first | (refine wpList_new 86 rfl hS rfl _ cos_new ?_; intro g w hS) | (refine wpList_new 31 rfl hS rfl _ pol_new ?_; intro g w hS)); (try simp only [put0, put1, put2, put3, put4])) | ((with_reducible refine pol_shape_ ?_); refine pol_bld_ rfl ?_; (try simp only [put0, put1, put2, put3, put4])) | ((with_reducible refine pol_shape_0 ?_); refine pol_bld_0 rfl rfl ?_; (try simp only [put0, put1, put2, put3, put4])) | ((with_reducible refine at_load ?_); (first | (refine cos_ld0 rfl hS rfl rfl (by repeat constructor) ?_)); (try simp only [put0, put1, put2, put3, put4])) | ((with_reducible refine at_store ?_); (first | (refine cos_stw rfl hS rfl rfl rfl (by repeat constructor) ?_; intro w hS) | (refine pol_stw rfl hS rfl rfl rfl (by repeat constructor) ?_; intro w hS)); (try simp only [put0, put1, put2, put3, put4])) | ((with_reducible refine region_here ?_); refine wp_region_X1 3 rfl hS (by kernel_rfl) (by kernel_rfl) (by kernel_rfl) (by decide +kernel) (by kernel_rfl) ?_; (simp only [List.take_succ_cons, List.take_zero, List.drop_succ_cons, List.drop_zero])) | ((with_reducible refine xat_nil ?_); refine runX_end ?_; intro w hS) | ((with_reducible refine xat_any ?_); (refine runX_pure (v := ?_) rfl (fun _ _ _ h => h) ?_ ?_; rotate_left; (focus ((intro w; go_simp) <;> with_reducible rfl))); (try simp only [put0, put1, put2, put3, put4])) | ((with_reducible refine region_here ?_); refine wp_region_St hS (by kernel_rfl) (by kernel_rfl) ?_) | ((with_reducible refine runS_end ?_); intro w hS) | ((with_reducible refine rat_load ?_); (first | (refine cos_rlw rfl rfl rfl (by repeat constructor) (fun _ _ _ h => h) ?_) | (refine pol_rlw rfl rfl rfl (by repeat constructor) (fun _ _ _ h => h) ?_)); (try simp only [put0, put1, put2, put3, put4])) | ((with_reducible refine rat_call ?_); (first | (refine runS_call (v := ?_) (args := ?_) 69 rfl (fun _ _ _ h => h) ?_ ?_ ?_; rotate_left 2; (focus ((intro w; go_simp) <;> with_reducible rfl)); (focus (intro w hS; refine St.callE hS (fun hl => coCost_any _ _ hl) ?_; with_reducible rfl)))); (try simp only [put0, put1, put2, put3, put4])) | ((with_reducible refine runS_here ?_); (refine runS_val (v := ?_) rfl (fun _ _ _ h => h) ?_ ?_; rotate_left; (focus ((intro w hS; go_simp) <;> with_reducible rfl))); (try simp only [put0, put1, put2, put3, put4])))
    all_goals (refine pol_res2 hS rfl rfl (by repeat constructor) rfl rfl (fun hb => ⟨rfl, hb⟩))
theorem poText_is (p : Po) (T : Str) (h : Hid (poText p = T)) (w : World) (hl : Laid w) : Calls Tryz.prog 43 #[.agg p.cells] w fun e w' => e = .returned (.string (B T)) ∧ Below w.heap.size w w' :=
 (poText_any p w hl).mono fun e w' h' => ⟨by rw [h'.1, h.out], h'.2⟩
end Go.Proofs.YtdnnbfbhifelkaaGreatDoor
namespace Go.Proofs.YtdnnbfbhifelkaaGreatDoor
open Go.ChangeShapes Go.WideShapes Go.RowKit
instance (r : Flt) : Part (Flt.cells r) 0 25 (Flt.cells r) := .of (n := 16) rfl Tryz.underlying25 rfl (by kernel_rfl)
instance (r v : Flt) : Put (Flt.cells r) 0 25 (.agg (Flt.cells v)) (Flt.cells v) := .of rfl rfl (by kernel_rfl) rfl
instance : Zer 25 (Flt.cells zeroF) := ⟨fun _ => by kernel_rfl⟩
instance : Bld 25 [] (.agg (Flt.cells zeroF)) := ⟨fun _ => by kernel_rfl⟩
instance (r : Am) : Part (Am.cells r) 0 29 (Am.cells r) := .of (n := 19) rfl Tryz.underlying29 rfl (by kernel_rfl)
instance (r v : Am) : Put (Am.cells r) 0 29 (.agg (Am.cells v)) (Am.cells v) := .of rfl rfl (by kernel_rfl) rfl
instance : Zer 29 (Am.cells zeroA) := ⟨fun _ => by kernel_rfl⟩
instance (r : Am) (x : Int) : Put (Am.cells r) 0 3 (.int .i64 x) (Am.cells ⟨x, r.n, r.c, r.f⟩) := .of rfl rfl (by kernel_rfl) rfl
instance (r : Am) (x : Int) : Put (Am.cells r) 1 3 (.int .i64 x) (Am.cells ⟨r.k, x, r.c, r.f⟩) := .of rfl rfl (by kernel_rfl) rfl
instance (r : Am) (x : Int) : Put (Am.cells r) 2 3 (.int .i64 x) (Am.cells ⟨r.k, r.n, x, r.f⟩) := .of rfl rfl (by kernel_rfl) rfl
instance (r : Am) : Part (Am.cells r) 3 25 (Flt.cells r.f) := .of (n := 16) rfl Tryz.underlying25 rfl (by kernel_rfl)
instance (r : Am) (x : Flt) : Put (Am.cells r) 3 25 (.agg (Flt.cells x)) (Am.cells ⟨r.k, r.n, r.c, x⟩) := .of rfl rfl (by kernel_rfl) rfl
instance : Bld 29 [] (.agg (Am.cells zeroA)) := ⟨fun _ => by kernel_rfl⟩
instance (x0 : Int) : Bld 29 [(0, .int .i64 x0)] (.agg (Am.cells ⟨x0, 0, 0, zeroF⟩)) := ⟨fun _ => by kernel_rfl⟩
instance (x1 : Int) : Bld 29 [(1, .int .i64 x1)] (.agg (Am.cells ⟨0, x1, 0, zeroF⟩)) := ⟨fun _ => by kernel_rfl⟩
instance (x0 : Int) (x2 : Int) : Bld 29 [(0, .int .i64 x0), (2, .int .i64 x2)] (.agg (Am.cells ⟨x0, 0, x2, zeroF⟩)) := ⟨fun _ => by kernel_rfl⟩
instance (x0 : Int) (x1 : Int) : Bld 29 [(0, .int .i64 x0), (1, .int .i64 x1)] (.agg (Am.cells ⟨x0, x1, 0, zeroF⟩)) := ⟨fun _ => by kernel_rfl⟩
instance (f g : Flt) : EqC TF (Flt.cells f) (Flt.cells g) (fltEq f g) := ⟨eq_v f g⟩
instance (r q : Am) : EqC 29 (Am.cells r) (Am.cells q) (amEq r q) := ⟨eq_am r q⟩
instance {f : Flt} : Len (textOf f) 1000000 := ⟨textOf_len⟩
theorem cnt_none {c : Int} : cntText c = [] ↔ ¬ (c = 0 ∨ c = 1 ∨ c = 2) := by
 unfold cntText
 repeat' split
 all_goals simp_all [wd, cntT]
instance {c : Int} : Len (cntText c) 6 := ⟨cntText_len c⟩
class Rng (n : Int) : Prop where
 lo : -1000000 ≤ n
 hi : n ≤ 1000000
instance {n : Int} [h : Rng n] : Len (Lib.itoa n) 21 := ⟨Lib.itoa_length_le n (by have := h.lo; omega) (by have := h.hi; omega)⟩
instance : Sub LaidM Laid := ⟨fun _ h => h.base⟩
section
variable {L : World → Prop}
instance (f : Flt) : Con 59 #[.agg (Flt.cells f)] L (.bool (fltIs f)) := ⟨fun w _ => rIs_v f _ (Lib.hid rfl) w⟩
instance (f : Flt) : Con 80 #[.agg (Flt.cells f)] L (.string (B (textOf f))) := ⟨fun w _ => rFltText_any f w⟩
instance (c : Int) : Con 32 #[.int .i64 c] L (.string (B (cntText c))) := ⟨fun w _ => (rCnt_any c w).mono fun e w' h => ⟨h.1, h.2 ▸ Below.refl _ _⟩⟩
instance (n : Int) [h : Rng n] : Con 111 #[.int .i64 n] L (.string (B (Lib.itoa n))) := ⟨fun w _ => rText_any n w (by have := h.lo; omega) (by have := h.hi; omega)⟩
variable [Sub L Laid]
instance (n : Int) [h : Rng n] : Con 64 #[.int .i64 n] L (.string (B (Lib.itoa n))) := ⟨fun w hl => numText_any n (by have := h.lo; omega) (by have := h.hi; omega) w (Sub.sub w hl)⟩
instance (f : Flt) : Con 57 #[.agg (Flt.cells f)] L (.bool (fltIs f)) := ⟨fun w hl => fltIs_any f.zone f.who f.self f.types f.ntypes f.colors f.ncolors f.sub f.keys f.tap f.pk f.pn f.tk f.tn f.vk f.vn w (Sub.sub w hl) _ (Lib.hid rfl)⟩
instance (f : Flt) : Con 44 #[.agg (Flt.cells f)] L (.string (B (textOf f))) := ⟨fun w hl => fltText_any f.zone f.who f.self f.types f.ntypes f.colors f.ncolors f.sub f.keys f.tap f.pk f.pn f.tk f.tn f.vk f.vn w (Sub.sub w hl)⟩
end
section
variable {L : World → Prop} [Sub L LaidM]
instance (c : Int) : Con 40 #[.int .i64 c] L (.string (B (cntText c))) := ⟨fun w hl => (cntName_any c w (Sub.sub w hl)).mono fun e w' h => ⟨h.1, h.2 ▸ Below.refl _ _⟩⟩
end
end Go.Proofs.YtdnnbfbhifelkaaGreatDoor
namespace Go.Proofs.YtdnnbfbhifelkaaGreatDoor
attribute [local irreducible] wpList Code.wp Calls fltIs fltEq
open Go.ChangeShapes Go.WideShapes Go.RowKit
attribute [local simp] fltEq_refl
def usedA (a : Am) : Am := ⟨0, if a.k = 0 ∨ a.k = 2 then 0 else a.n, if a.k = 4 then 0 else a.c, if a.k = 2 then zeroF else a.f⟩
theorem fltIs_v (f : Flt) (R : Bool) (HR : Hid (fltIs f = R)) (w : World) (hl : Laid w) : Calls Tryz.prog 57 #[.agg f.cells] w fun e w' => e = .returned (.bool R) ∧ Below w.heap.size w w' :=
 fltIs_any f.zone f.who f.self f.types f.ntypes f.colors f.ncolors f.sub f.keys f.tap f.pk f.pn f.tk f.tn f.vk f.vn w hl R HR
theorem used_v (k n c : Int) (f : Flt) (w0 : World) : Calls Tryz.prog 100 #[.agg (Am.cells ⟨k, n, c, f⟩)] w0 fun e w' => e = .returned (.agg (usedA ⟨k, n, c, f⟩).cells) ∧ Below w0.heap.size w0 w' := by
 have hS := St.start0 w0
 go_in
 go_wp2_with (first | (have hq := iE; subst hq) | refine s0 ?_ | (refine s1 ?_; clear hS; intro w hS) | (refine s2 ?_; clear hS; intro g w hS))
 all_goals first | go_ret | refine res1 hS ?_
 all_goals refine ⟨ret_cells ?_, hS.below⟩
 all_goals (clear hS; simp_all [usedA, zeroF])
instance {L : World → Prop} (a : Am) : Con 100 #[.agg (Am.cells a)] L (.agg (Am.cells (usedA a))) := ⟨fun w _ => used_v a.k a.n a.c a.f w⟩
theorem aIs_w (k n c : Int) (f : Flt) (w0 : World) (hl : LaidM w0) : Calls Tryz.prog 55 #[.agg (Am.cells ⟨k, n, c, f⟩)] w0 fun e w' => e = .returned (.bool (amIs ⟨k, n, c, f⟩)) ∧ Below w0.heap.size w0 w' := by
 have hS := St.start hl fun _ _ h hb => h.below hb
 go_in
 go_wp2_with (first | (have hq := iE; subst hq) | refine s0 ?_ | (refine s1 ?_; clear hS; intro w hS) | (refine s2 ?_; clear hS; intro g w hS) | (refine s3 ?_ ?_ <;> intro hb <;> (try subst hb) <;> (try (exfalso; first | omega | exact Bool.noConfusion hb))))
 all_goals go_ret
 all_goals refine ⟨ret_bool ?_, hS.below⟩
 all_goals clear hS
 all_goals (simp_all [amIs, amEq, usedA, bareA, cnt_none, zeroA, fltEq_refl] <;> first | exact fin | (rw [Bool.eq_iff_iff]; simp [cnt_none]; done))
theorem aIs_v (a : Am) (R : Bool) (HR : Hid (amIs a = R)) (w : World) (hl : LaidM w) : Calls Tryz.prog 55 #[.agg a.cells] w fun e w' => e = .returned (.bool R) ∧ Below w.heap.size w w' := HR.out ▸ aIs_w a.k a.n a.c a.f w hl
instance {L : World → Prop} [Sub L LaidM] (a : Am) : Con 55 #[.agg (Am.cells a)] L (.bool (amIs a)) := ⟨fun w hl => aIs_w a.k a.n a.c a.f w (Sub.sub w hl)⟩
end Go.Proofs.YtdnnbfbhifelkaaGreatDoor
namespace Go.Proofs.YtdnnbfbhifelkaaGreatDoor
attribute [local irreducible] wpList Code.wp Calls fltIs fltEq
open Go.ChangeShapes Go.WideShapes Go.RowKit
def simS (k : Int) : Str := if bareA k = true then wd simT k.toNat else []
theorem simple_w (k : Int) (w0 : World) : Calls Tryz.prog 65 #[.int .i64 k] w0 fun e w' => e = .returned (.string (B (simS k))) ∧ w0 = w' := by
 go_in
 go_wp2_with (have hq := iE; subst hq)
 all_goals go_ret
 all_goals refine ⟨ret_B ?_, rfl⟩
 all_goals first | rfl | (simp_all [simS, bareA]; done)
instance {L : World → Prop} (k : Int) : Con 65 #[.int .i64 k] L (.string (B (simS k))) := ⟨fun w _ => (simple_w k w).mono fun _ _ h => ⟨h.1, h.2 ▸ Below.refl _ _⟩⟩
theorem am_in {a : Am} (h : (!amIs a) = false) : 0 ≤ a.n ∧ a.n ≤ 1000000 := by
 rcases amIs_cases (by simpa using h) with ⟨n, _, rfl⟩ | ⟨n, _, _, f, _, rfl⟩ | ⟨c, _, rfl⟩ | ⟨k, _, rfl⟩ <;> simp <;> omega
theorem aText_w (k n c : Int) (f : Flt) (w0 : World) (hl : LaidM w0) : Calls Tryz.prog 41 #[.agg (Am.cells ⟨k, n, c, f⟩)] w0 fun e w' => e = .returned (.string (B (amText ⟨k, n, c, f⟩))) ∧ Below w0.heap.size w0 w' := by
 have hS := St.start hl fun _ _ h hb => h.below hb
 go_in
 go_wp2_with (first | (have hq := iE; subst hq) | (go_at_call 64; have hn := am_in ‹(!amIs _) = false›; simp only at hn; have : Len (Lib.itoa n) 21 := ⟨Lib.itoa_length_le n (by omega) (by omega)⟩; refine c_call (fun hl => numText_any _ (by omega) (by omega) _ hl.base) hS ?_; clear hS; intro w hS) | refine s0 ?_ | (refine s1 ?_; clear hS; intro w hS) | (refine s2 ?_; clear hS; intro g w hS))
 all_goals go_ret
 all_goals refine ⟨ret_B ?_, hS.below⟩
 all_goals clear hS
 all_goals first | (simp_all [amText]; done) | (simp_all [amText, amBody, countS, countW, cntsW, wd, simS, simT, amIs, bareA]; done) | (simp_all [amText, amBody, countS, countW, cntsW, amIs] <;> omega)
theorem simple_any (k : Nat) (hk : k < 8) (w : World) : Calls Tryz.prog 65 #[.int .i64 k] w fun e w' => e = .returned (.string (B (wd simT k))) ∧ w = w' := by
 rw [show wd simT k = simS k by have : ∀ k : Fin 8, wd simT k.val = simS k.val := by decide +kernel
                                exact this ⟨k, hk⟩]
 exact simple_w k w
theorem aText_v (a : Am) (w : World) (hl : LaidM w) : Calls Tryz.prog 41 #[.agg a.cells] w fun e w' => e = .returned (.string (B (amText a))) ∧ Below w.heap.size w w' := aText_w a.k a.n a.c a.f w hl
instance {L : World → Prop} [Sub L LaidM] (a : Am) : Con 41 #[.agg (Am.cells a)] L (.string (B (amText a))) := ⟨fun w hl => aText_v a w (Sub.sub w hl)⟩
theorem aText_is (a : Am) (T : ByteArray) (hT : Hid (B (amText a) = T)) (w : World) (hl : LaidM w) :
 Calls Tryz.prog 41 #[.agg a.cells] w fun e w' => e = .returned (.string T) ∧ Below w.heap.size w w' :=
 (aText_v a w hl).mono fun e w' h => ⟨by rw [h.1, hT.out], h.2⟩
end Go.Proofs.YtdnnbfbhifelkaaGreatDoor
namespace Go.Proofs.YtdnnbfbhifelkaaGreatDoor
open Go.ChangeShapes Go.WideShapes Go.RowKit
class Lit (b : ByteArray) (l : outParam Str) : Prop where
 eq : b = B l
instance (l : Str) : Lit ⟨l.toArray⟩ l := ⟨rfl⟩
instance (l : Str) : Lit (B l) l := ⟨rfl⟩
class Sht (s : Str) : Prop where
 lt : s.length < 100000000
instance {s : Str} {k : Nat} [h : Sht s] : Sht (s.drop k) := ⟨by have := h.lt; rw [List.length_drop]; omega⟩
instance {s : Str} {k : Nat} [h : Sht s] : Sht (s.take k) := ⟨by have := h.lt; rw [List.length_take]; omega⟩
instance {s l : Str} [h : Sht s] : Sht (Lib.trimPrefix s l) := ⟨by unfold Lib.trimPrefix; have := h.lt; split <;> simp <;> omega⟩
instance {s l : Str} [h : Sht s] : Sht (Lib.trimSuffix s l) := ⟨by unfold Lib.trimSuffix; have := h.lt; split <;> simp <;> omega⟩
theorem Sht.sz (s : Str) [h : Sht s] : (B s).size < 100000000 := by rw [B_size]; exact h.lt
def errI (b : Bool) : Int := cond b 0 3
theorem errI_ne (b : Bool) : (errI b != 0) = !b := by cases b <;> rfl
theorem errI_eq (b : Bool) : (errI b == 0) = b := by cases b <;> rfl
theorem B_extract (s : Str) (a b : Nat) : (B s).extract a b = B ((s.take b).drop a) := L_inj (by rw [L_extract, L_B, L_B])
theorem get_B (s : Str) (n : Nat) (h : n < (B s).size) : ((B s)[n]'h).toNat = byt s n := by rw [get_l, L_B]
theorem numRet_g (o : Option Int) : numRet o = .tuple #[.int .i64 (o.getD 0), .bool o.isSome] := by cases o <;> rfl
theorem fltRet_g (o : Option Flt) : fltRet o = .tuple #[.agg (Flt.cells (o.getD zeroF)), .int .i64 (errI o.isSome)] := by cases o <;> rfl
theorem bel_eq {w w' : World} (h : w = w') : Below w.heap.size w w' := h ▸ Below.refl _ _
section
variable {L' : World → Prop}
instance (s : Str) [Sht s] : Con 145 #[.string (B s)] L' (.tuple #[.int .i64 ((rdNum s).getD 0), .bool (rdNum s).isSome]) := ⟨fun w _ => (rNumber_any (B s) w (Sht.sz s)).mono fun e w' h => ⟨by rw [h.1, L_B, numRet_g], h.2⟩⟩
instance (s : Str) [Sht s] : Con 98 #[.string (B s)] L' (.tuple #[.agg (Flt.cells ((parseS s).getD zeroF)), .int .i64 (errI (parseS s).isSome)]) := ⟨fun w _ => (rParse_any (B s) w (Sht.sz s)).mono fun e w' h => ⟨by rw [h.1, L_B, qParse_eq, fltRet_g], h.2⟩⟩
instance {p : ByteArray} {l : Str} [h : Lit p l] (s : Str) : Con 177 #[.string (B s), .string p] L' (.tuple #[.string (B (Lib.trimPrefix s l)), .bool (Lib.hasPrefix s l)]) := ⟨fun w _ => (cutPrefix_any (B s) p w l (by rw [h.eq, L_B])).mono fun e w' h => ⟨by rw [h.1, L_B], bel_eq h.2⟩⟩
instance {p : ByteArray} {l : Str} [h : Lit p l] (s : Str) : Con 182 #[.string (B s), .string p] L' (.string (B (Lib.trimPrefix s l))) := ⟨fun w _ => (trimPreM_is (B s) p w l (by rw [h.eq, L_B]) _ (Lib.hid rfl)).mono fun e w' h => ⟨by rw [h.1, L_B], bel_eq h.2⟩⟩
instance {p : ByteArray} {l : Str} [h : Lit p l] (s : Str) [Sht s] : Con 178 #[.string (B s), .string p] L' (.tuple #[.string (B (Lib.trimSuffix s l)), .bool (Lib.hasSuffix s l)]) := ⟨fun w _ => (Tryz.strings_CutSuffix (B s) p w (by have := Sht.sz s; omega)).mono fun e w' h' => ⟨by rw [h'.1, show p = B l from h.eq]; simp [L_B]; rfl, bel_eq h'.2.symm⟩⟩
instance {p : ByteArray} {l : Str} [h : Lit p l] (s : Str) [Sht s] : Con 180 #[.string (B s), .string p] L' (.string (B (Lib.trimSuffix s l))) := ⟨fun w _ => (Tryz.strings_TrimSuffix (B s) p w (by have := Sht.sz s; omega)).mono fun e w' h' => ⟨by rw [h'.1, show p = B l from h.eq]; simp [L_B]; rfl, bel_eq h'.2.symm⟩⟩
variable [Sub L' Laid]
instance (s : Str) [Sht s] : Con 179 #[.string (B s)] L' (.tuple #[.int .i64 ((numOf s).getD 0), .bool (numOf s).isSome]) := ⟨fun w hl => (number_any (B s) w (Sub.sub w hl) (by have := Sht.sz s; omega)).mono fun e w' h => ⟨by rw [h.1, L_B, numRet_g], h.2⟩⟩
instance (s : Str) [Sht s] : Con 88 #[.string (B s)] L' (.tuple #[.agg (Flt.cells ((parseS s).getD zeroF)), .int .i64 (errI (parseS s).isSome)]) := ⟨fun w hl => (fltParse_any (B s) w (Sub.sub w hl) (Sht.sz s)).mono fun e w' h => ⟨by rw [h.1, L_B, fltRet_g], h.2⟩⟩
end
end Go.Proofs.YtdnnbfbhifelkaaGreatDoor
namespace Go.Proofs.YtdnnbfbhifelkaaGreatDoor
open Go.ChangeShapes Go.WideShapes Go.RowKit
theorem build_an (n : Int) (w : World) : (Instr.build TAm #[(1, .int .i64 n)]).run Tryz.prog w = .ok (.agg (Am.cells ⟨0, n, 0, zeroF⟩)) w := by kernel_rfl
theorem build_ak (k : Int) (w : World) : (Instr.build TAm #[(0, .int .i64 k)]).run Tryz.prog w = .ok (.agg (Am.cells ⟨k, 0, 0, zeroF⟩)) w := by kernel_rfl
theorem build_ac (k c : Int) (w : World) : (Instr.build TAm #[(0, .int .i64 k), (2, .int .i64 c)]).run Tryz.prog w = .ok (.agg (Am.cells ⟨k, 0, c, zeroF⟩)) w := by kernel_rfl
theorem build_akn (k n : Int) (w : World) : (Instr.build TAm #[(0, .int .i64 k), (1, .int .i64 n)]).run Tryz.prog w = .ok (.agg (Am.cells ⟨k, n, 0, zeroF⟩)) w := by kernel_rfl
theorem wcut_is (s : ByteArray) (v : Value) (h : Hid (cutRet s (cutD 42 0 (L s)) = v)) (hs : s.size < 100000000) (w : World) : Calls Tryz.prog 181 #[.string s, .string ⟨#[42]⟩] w fun e w' => e = .returned v ∧ Below w.heap.size w w' :=
 (wcut_any s w hs).mono fun e w' h' => ⟨by rw [h'.1, h.out], h'.2⟩
def ASt (w wr : World) : Prop := wr.heap[w.heap.size]? = some (.cells zeroA.cells TAm) ∧ Below w.heap.size w wr
theorem ASt.below {w w1 w2 : World} (h : ASt w w1) (hb : Below w1.heap.size w1 w2) : ASt w w2 := ⟨blk_below2 hb h.1, below_two h.2 hb⟩
theorem ASt.bel {w wr : World} (h : ASt w wr) : Below w.heap.size w wr := h.2
theorem ASt.setRow {w w1 : World} (h : ASt w w1) {g : Nat} (hg : w.heap.size < g) (cs : Array Value) : ASt w (w1.setRow g cs) :=
 ⟨(setRow_other w1 g w.heap.size cs (by omega)).trans h.1, below_setRow h.2 (Nat.le_of_lt hg) cs⟩
theorem guess_any (s : ByteArray) (w : World) (hl : LaidM w) (hs : s.size < 100000000) :
 Calls Tryz.prog 139 #[.string s] w fun e w' => e = .returned (.agg (guessA (L s)).cells) ∧ Below w.heap.size w w' := by
 obtain ⟨R, hR⟩ : ∃ R, guessA (L s) = R := ⟨_, rfl⟩
 rw [hR]
 have HR := Lib.hid hR
 clear hR
 have hss : Hid (s.size < 4294967281) := Lib.hid (by omega)
 have hss8 : Hid (s.size < 100000000) := Lib.hid hs
 have hl1 := hl.alloc (.cells zeroA.cells TAm)
 have S0 : Hid (ASt w (w.alloc (.cells zeroA.cells TAm))) := Lib.hid ⟨heap_alloc_new w _, (Below.refl _ _).alloc (Nat.le_refl _) _⟩
 cases hn : numOf (L s) with
 | some n =>
   have HM : Hid (numRet (numOf (L s)) = .tuple #[.int .i64 n, .bool true]) := Lib.hid (by rw [hn]; rfl)
   have HN : Hid (R = ⟨0, n, 0, zeroF⟩) := Lib.hid (by rw [← HR.out]; unfold guessA; rw [hn])
   clear hn
   go_enter Tryz.func139, Tryz.ntmps139
   go_wp2_with (first | (rw [wpList_skip_eq]; rotate_left; · rfl) | (go_at_call 179; (refine (number_is s n true HM hss.out _ hl1).mono ?_); rintro e w1 ⟨rfl, hb1⟩; have S1 := Lib.hid (ASt.below S0.out hb1); have hl2 := hl.below S1.out.2) | refine wpList_build1a (by rfl) TAm 1 _ (by rfl) (.int .i64 n) (.agg (Am.cells ⟨0, n, 0, zeroF⟩)) (by rfl) (build_an _ _) ?_ | refine wpList_store_row (by rfl) TAm _ _ (by rfl) w.heap.size (Am.cells ⟨0, n, 0, zeroF⟩) (by rfl) (by rfl) TAm zeroA.cells S1.out.1 infoTAm rfl (acells_one _) ?_)
   exact bodyPost_ret (results_cell_row rfl _ _ w.heap.size TAm (Am.cells ⟨0, n, 0, zeroF⟩) (0, 0) _ rfl (row_set S1.out.1) Tryz.underlying29 rfl infoTAm) rfl ⟨ret_val (by rw [HN.out]), below_setRow S1.out.2 (Nat.le_refl _) _⟩
 | none =>
   have HM : Hid (numRet (numOf (L s)) = .tuple #[.int .i64 0, .bool false]) := Lib.hid (by rw [hn]; rfl)
   have HR1 : Hid ((match simIx (L s) with
    | some k => (⟨(k : Int), 0, 0, zeroF⟩ : Am)
    | none => if Lib.hasPrefix (L s) cntsW = true then ⟨4, 0, (((cntIx (Lib.trimSuffix (Lib.trimPrefix (L s) cntsW) [41])).getD 0 : Nat) : Int), zeroF⟩
      else match cutD 42 0 (L s) with
       | some (a, r) => ⟨2, (numOf a).getD 0, 0, (parseS (inCount r)).getD zeroF⟩
       | none => ⟨2, 1, 0, (parseS (inCount (L s))).getD zeroF⟩) = R) := Lib.hid (by have h := HR.out; unfold guessA at h; rw [hn] at h; exact h)
   clear hn HR
   go_enter Tryz.func139, Tryz.ntmps139
   go_wp2_with (first | (rw [wpList_skip_eq]; rotate_left; · rfl) | (go_at_call 179; (refine (number_is s 0 false HM hss.out _ hl1).mono ?_); rintro e w1 ⟨rfl, hb1⟩; have S1 := Lib.hid (ASt.below S0.out hb1); have hl2 := hl.below S1.out.2))
   go_loop [5] (fun kv => ∃ k : Nat, k ≤ 8 ∧ kv = .int .i64 k ∧ Hid (simIx (L s) = (List.range' k (8 - k)).find? fun k => wd simT k == L s)) (fun kv => 8 - (intOf kv).toNat)
   case atStart => exact ⟨0, by omega, rfl, rfl⟩
   case round =>
    obtain ⟨k, hk, rfl, HD⟩ := hrel
    by_cases hlt : k < 8
    ·have hk7 : (k : Int) ≤ 7 := by omega
     have hst := HD.out
     rw [show 8 - k = (8 - (k + 1)) + 1 by omega, List.range'_succ, List.find?_cons] at hst
     have hsim := Lib.hid (fun (wx : World) => simple_any k hlt wx)
     by_cases he : wd simT k = L s
     ·have te := toList_yes he
      have HN : Hid (R = ⟨(k : Int), 0, 0, zeroF⟩) := Lib.hid (by have h := HR1.out; rw [hst, show (wd simT k == L s) = true by simpa using he] at h; exact h.symm)
      clear hst he
      go_wp2_with (first | (go_at_call 65; (with_reducible refine (hsim.out _).mono ?_); rintro e wu ⟨rfl, rfl⟩) | refine wpList_build1a (by rfl) TAm 0 _ (by rfl) (.int .i64 k) (.agg (Am.cells ⟨(k : Int), 0, 0, zeroF⟩)) (by rfl) (build_ak _ _) ?_ | refine wpList_store_row (by rfl) TAm _ _ (by rfl) w.heap.size (Am.cells ⟨(k : Int), 0, 0, zeroF⟩) (by rfl) (by rfl) TAm zeroA.cells S1.out.1 infoTAm rfl (acells_one _) ?_)
      exact bodyPost_ret (results_cell_row rfl _ _ w.heap.size TAm (Am.cells ⟨(k : Int), 0, 0, zeroF⟩) (0, 0) _ rfl (row_set S1.out.1) Tryz.underlying29 rfl infoTAm) rfl ⟨ret_val (by rw [HN.out]), below_setRow S1.out.2 (Nat.le_refl _) _⟩
     ·have te := toList_no he
      have HD2 : Hid (simIx (L s) = (List.range' (k + 1) (8 - (k + 1))).find? fun k => wd simT k == L s) := Lib.hid (by rw [hst, show (wd simT k == L s) = false by simpa using he])
      clear hst he
      go_wp2_with (first | (go_at_call 65; (with_reducible refine (hsim.out _).mono ?_); rintro e wu ⟨rfl, rfl⟩))
      go_round
      case rel => exact ⟨k + 1, by omega, by go_num, HD2⟩
      case measure => simp [intOf]; omega
    ·obtain rfl : k = 8 := by omega
     have hsn : simIx (L s) = none := by rw [HD.out]; rfl
     have HR2 : Hid ((if Lib.hasPrefix (L s) cntsW = true then (⟨4, 0, (((cntIx (Lib.trimSuffix (Lib.trimPrefix (L s) cntsW) [41])).getD 0 : Nat) : Int), zeroF⟩ : Am)
      else match cutD 42 0 (L s) with
       | some (a, r) => ⟨2, (numOf a).getD 0, 0, (parseS (inCount r)).getD zeroF⟩
       | none => ⟨2, 1, 0, (parseS (inCount (L s))).getD zeroF⟩) = R) := Lib.hid (by have h := HR1.out; rw [hsn] at h; exact h)
     have ec : L ⟨#[99, 111, 117, 110, 116, 101, 114, 115, 40]⟩ = cntsW := rfl
     obtain ⟨r, hr⟩ : ∃ r, Lib.trimPrefix (L s) cntsW = r := ⟨_, rfl⟩
     have hrl : r.length ≤ s.size := by rw [← hr, ← size_l]; exact Lib.trimPrefix_le _ _
     clear HD HR1 hsn
     cases hb : Lib.hasPrefix (L s) cntsW with
     | true =>
       have HCP : Hid (Lib.trimPrefix (L s) cntsW = r ∧ Lib.hasPrefix (L s) cntsW = true) := Lib.hid ⟨hr, hb⟩
       obtain ⟨r2, hr2⟩ : ∃ r2, Lib.trimSuffix (L (B r)) [41] = r2 := ⟨_, rfl⟩
       obtain ⟨m, hm⟩ : ∃ m : Int, (((cntIx (L (B r2))).getD 0 : Nat) : Int) = m := ⟨_, rfl⟩
       obtain ⟨b2, hb2⟩ : ∃ b2, (cntIx (L (B r2))).isSome = b2 := ⟨_, rfl⟩
       have HK := Lib.hid (And.intro hm hb2)
       have HN : Hid (R = ⟨4, 0, m, zeroF⟩) := Lib.hid (by have h := HR2.out; rw [if_pos hb, hr] at h; rw [← h, ← hm, ← hr2, L_B, L_B])
       have HT2 := Lib.hid hr2
       have hrs : Hid ((B r).size < 1000000000) := Lib.hid (by rw [B_size]; omega)
       clear hr hrl hb hr2 hm hb2 HR2
       go_wp2_with (first | (rw [wpList_skip_eq]; rotate_left; · rfl) | (go_at_call 177; (with_reducible refine (cutPreM_is s ⟨#[99, 111, 117, 110, 116, 101, 114, 115, 40]⟩ _ cntsW ec r true HCP).mono ?_); rintro e wu ⟨rfl, rfl⟩) | (go_at_call 180; (with_reducible refine (trimSufM_is (B r) ⟨#[41]⟩ _ hrs.out [41] rfl r2 HT2).mono ?_); rintro e wu ⟨rfl, rfl⟩) | (go_at_call 83; (with_reducible refine (cntKind_is (B r2) m b2 HK _ hl2).mono ?_); rintro e wu ⟨rfl, rfl⟩) | refine wpList_build_g (by rfl) TAm 0 2 _ _ (by rfl) (.int .i64 4) (.int .i64 m) (.agg (Am.cells ⟨4, 0, m, zeroF⟩)) (by rfl) (by rfl) (build_ac _ _ _) ?_ | refine wpList_store_row (by rfl) TAm _ _ (by rfl) w.heap.size (Am.cells ⟨4, 0, m, zeroF⟩) (by rfl) (by rfl) TAm zeroA.cells S1.out.1 infoTAm rfl (acells_one _) ?_)
       exact bodyPost_ret (results_cell_row rfl _ _ w.heap.size TAm (Am.cells ⟨4, 0, m, zeroF⟩) (0, 0) _ rfl (row_set S1.out.1) Tryz.underlying29 rfl infoTAm) rfl ⟨ret_val (by rw [HN.out]), below_setRow S1.out.2 (Nat.le_refl _) _⟩
     | false =>
       have HCP : Hid (Lib.trimPrefix (L s) cntsW = r ∧ Lib.hasPrefix (L s) cntsW = false) := Lib.hid ⟨hr, hb⟩
       have HG1 : Hid (w.heap.size < w1.heap.size) := Lib.hid (blk_lt S1.out.1)
       have HR3 : Hid ((match cutD 42 0 (L s) with
        | some (a, r) => (⟨2, (numOf a).getD 0, 0, (parseS (inCount r)).getD zeroF⟩ : Am)
        | none => ⟨2, 1, 0, (parseS (inCount (L s))).getD zeroF⟩) = R) := Lib.hid (by have h := HR2.out; rw [if_neg (by rw [hb]; simp)] at h; exact h)
       clear hr hrl hb HR2
       cases hc : cutD 42 0 (L s) with
       | none =>
         have HWC : Hid (cutRet s (cutD 42 0 (L s)) = .tuple #[.string s, .string ⟨#[]⟩, .bool false]) := Lib.hid (by rw [hc]; rfl)
         have HT : Hid (R = ⟨2, 1, 0, (parseS (inCount (L s))).getD zeroF⟩) := Lib.hid (by have h := HR3.out; rw [hc] at h; exact h.symm)
         clear hc HR3
         go_wp2_with (first | (rw [wpList_skip_eq]; rotate_left; · rfl) | (go_at_call 177; (with_reducible refine (cutPreM_is s ⟨#[99, 111, 117, 110, 116, 101, 114, 115, 40]⟩ _ cntsW ec r false HCP).mono ?_); rintro e wu ⟨rfl, rfl⟩) | refine wpList_build_g (by rfl) TAm 0 1 _ _ (by rfl) (.int .i64 2) (.int .i64 1) (.agg (Am.cells ⟨2, 1, 0, zeroF⟩)) (by rfl) (by rfl) (build_akn _ _ _) ?_ | (refine wpList_store_row (by rfl) TAm _ _ (by rfl) w1.heap.size (Am.cells ⟨2, 1, 0, zeroF⟩) (by rfl) (by rfl) TAm zeroA.cells (heap_alloc_new w1 _) infoTAm rfl (acells_one _) ?_; change wpList _ _ _ _ _ (stored w1 TAm zeroA.cells (Am.cells ⟨2, 1, 0, zeroF⟩)); have g2 := Lib.hid (stored_new w1 TAm zeroA.cells (Am.cells ⟨2, 1, 0, zeroF⟩)); have S2 := Lib.hid (ASt.below S1.out (stored_below w1 TAm zeroA.cells (Am.cells ⟨2, 1, 0, zeroF⟩))); generalize stored w1 TAm zeroA.cells (Am.cells ⟨2, 1, 0, zeroF⟩) = w2 at *) | (go_at_call 181; (with_reducible refine (wcut_is s _ HWC hss8.out _).mono ?_); rintro e w2b ⟨rfl, hb2b⟩; have S2b := Lib.hid (ASt.below S2.out hb2b); have g2b := Lib.hid (blk_below2 hb2b g2.out)))
         generalize w1.heap.size = g10 at *
         have HG0 := HG1
         obtain ⟨p1, hp1⟩ : ∃ p1, Lib.trimPrefix (L s) countW = p1 := ⟨_, rfl⟩
         have hp1l : p1.length ≤ (L s).length := by rw [← hp1]; exact Lib.trimPrefix_le _ _
         have hrb : (L s).length < 100000000 := by rw [size_l]; exact hs
         obtain ⟨p2, hp2⟩ : ∃ p2, Lib.trimSuffix (L (B p1)) [41] = p2 := ⟨_, rfl⟩
         have hp2l : p2.length ≤ p1.length := by rw [← hp2, L_B]; exact Lib.trimSuffix_le _ _
         have hp1s : Hid ((B p1).size < 1000000000) := Lib.hid (by rw [B_size]; omega)
         have hp2s : (B p2).size < 100000000 := by rw [B_size]; omega
         have hin : inCount (L s) = p2 := by unfold inCount; rw [hp1, ← hp2, L_B]
         have FP : ∀ wx, Laid wx → Calls Tryz.prog 88 #[.string (B p2)] wx fun e w' => e = .returned (fltRet (parseS p2)) ∧ Below wx.heap.size wx w' := fun wx hlx => (fltParse_any _ wx hlx hp2s).mono fun e w' h => ⟨by rw [h.1, L_B], h.2⟩
         obtain ⟨f, c, hfc, hff⟩ : ∃ f c, fltRet (parseS p2) = .tuple #[.agg (Flt.cells f), .int .i64 c] ∧ (parseS p2).getD zeroF = f := by
          cases parseS p2 with
          | none => exact ⟨zeroF, 3, rfl, rfl⟩
          | some f => exact ⟨f, 0, rfl, rfl⟩
         rw [hfc] at FP
         have HN : Hid (R = ⟨2, 1, 0, f⟩) := Lib.hid (by rw [HT.out, hin, hff])
         have HFP := Lib.hid FP
         have HP1 := Lib.hid hp1
         have HP2 := Lib.hid hp2
         have HG : Hid (w.heap.size < g10) := HG0
         clear hp1 hp2 hp1l hp2l hp2s hrb hin FP hfc hff
         go_wp2_with (first | (rw [wpList_skip_eq]; rotate_left; · rfl) | (go_at_call 182; (with_reducible refine (trimPreM_is s ⟨#[99, 111, 117, 110, 116, 40]⟩ _ countW rfl p1 HP1).mono ?_); rintro e wu ⟨rfl, rfl⟩) | (go_at_call 180; (with_reducible refine (trimSufM_is (B p1) ⟨#[41]⟩ _ hp1s.out [41] rfl p2 HP2).mono ?_); rintro e wu ⟨rfl, rfl⟩) | (go_at_call 88; (with_reducible refine (HFP.out _ (hl.below (ASt.bel S2b.out)).base).mono ?_); rintro e w5 ⟨rfl, hb5⟩; have S5 := Lib.hid (ASt.below S2b.out hb5); have g5 := Lib.hid (blk_below2 hb5 g2b.out)) | (refine wpList_store_part (by rfl) TF _ _ (by rfl) g10 3 TAm (Am.cells ⟨2, 1, 0, zeroF⟩) f.cells (Am.cells ⟨2, 1, 0, f⟩) (by rfl) (by rfl) g5.out (by simp [Am.cells, Flt.cells]) (am_put _ f) infoTF (cells_one _) ?_; have g6 := Lib.hid (row_set (cs := Am.cells ⟨2, 1, 0, f⟩) g5.out); have S6 := Lib.hid (ASt.setRow S5.out HG.out (Am.cells ⟨2, 1, 0, f⟩)); generalize World.setRow w5 g10 (Am.cells ⟨2, 1, 0, f⟩) = w6 at *) | refine wpList_load_row_g (by rfl) TAm _ (by rfl) g10 (by rfl) TAm (Am.cells ⟨2, 1, 0, f⟩) (0, 0) _ g6.out Tryz.underlying29 rfl infoTAm ?_ | refine wpList_store_row (by rfl) TAm _ _ (by rfl) w.heap.size (Am.cells ⟨2, 1, 0, f⟩) (by rfl) (by rfl) TAm zeroA.cells S6.out.1 infoTAm rfl (acells_one _) ?_)
         exact bodyPost_ret (results_cell_row rfl _ _ w.heap.size TAm (Am.cells ⟨2, 1, 0, f⟩) (0, 0) _ rfl (row_set S6.out.1) Tryz.underlying29 rfl infoTAm) rfl ⟨ret_val (by rw [HN.out]), below_setRow S6.out.2 (Nat.le_refl _) _⟩
       | some pr =>
         obtain ⟨a, rr⟩ := pr
         have hlen : a.length ≤ s.size ∧ rr.length ≤ s.size := by rw [← size_l]; exact cutD_len hc
         have HWC : Hid (cutRet s (cutD 42 0 (L s)) = .tuple #[.string (B a), .string (B rr), .bool true]) := Lib.hid (by rw [hc]; rfl)
         obtain ⟨n, b3, hnb, hng⟩ : ∃ n b3, numRet (numOf a) = .tuple #[.int .i64 n, .bool b3] ∧ (numOf a).getD 0 = n := by
          cases numOf a with
          | none => exact ⟨0, false, rfl, rfl⟩
          | some v => exact ⟨v, true, rfl, rfl⟩
         have HM2 : Hid (numRet (numOf (L (B a))) = .tuple #[.int .i64 n, .bool b3]) := Lib.hid (by rw [L_B]; exact hnb)
         have has : Hid ((B a).size < 4294967281) := Lib.hid (by rw [B_size]; omega)
         have HT : Hid (R = ⟨2, n, 0, (parseS (inCount (L (B rr)))).getD zeroF⟩) := Lib.hid (by have h := HR3.out; rw [hc] at h; rw [← h, ← hng, L_B])
         have hrrl : rr.length < 100000000 := by omega
         clear hc HR3 hnb hng hlen
         go_wp2_with (first | (rw [wpList_skip_eq]; rotate_left; · rfl) | (go_at_call 177; (with_reducible refine (cutPreM_is s ⟨#[99, 111, 117, 110, 116, 101, 114, 115, 40]⟩ _ cntsW ec r false HCP).mono ?_); rintro e wu ⟨rfl, rfl⟩) | refine wpList_build_g (by rfl) TAm 0 1 _ _ (by rfl) (.int .i64 2) (.int .i64 1) (.agg (Am.cells ⟨2, 1, 0, zeroF⟩)) (by rfl) (by rfl) (build_akn _ _ _) ?_ | (refine wpList_store_row (by rfl) TAm _ _ (by rfl) w1.heap.size (Am.cells ⟨2, 1, 0, zeroF⟩) (by rfl) (by rfl) TAm zeroA.cells (heap_alloc_new w1 _) infoTAm rfl (acells_one _) ?_; change wpList _ _ _ _ _ (stored w1 TAm zeroA.cells (Am.cells ⟨2, 1, 0, zeroF⟩)); have g2 := Lib.hid (stored_new w1 TAm zeroA.cells (Am.cells ⟨2, 1, 0, zeroF⟩)); have S2 := Lib.hid (ASt.below S1.out (stored_below w1 TAm zeroA.cells (Am.cells ⟨2, 1, 0, zeroF⟩))); generalize stored w1 TAm zeroA.cells (Am.cells ⟨2, 1, 0, zeroF⟩) = w2 at *) | (go_at_call 181; (with_reducible refine (wcut_is s _ HWC hss8.out _).mono ?_); rintro e w2b ⟨rfl, hb2b⟩; have S2b := Lib.hid (ASt.below S2.out hb2b); have g2b := Lib.hid (blk_below2 hb2b g2.out)))
         generalize w1.heap.size = g10 at *
         have HG0 := HG1
         go_wp2_with (first | (rw [wpList_skip_eq]; rotate_left; · rfl) | (go_at_call 179; (with_reducible refine (number_is (B a) n b3 HM2 has.out _ (hl.below (ASt.bel S2b.out))).mono ?_); rintro e w3 ⟨rfl, hb3⟩; have S3 := Lib.hid (ASt.below S2b.out hb3); have g3 := Lib.hid (blk_below2 hb3 g2b.out)) | (refine wpList_store_int (by rfl) 3 _ _ (by rfl) g10 1 TAm (Am.cells ⟨2, 1, 0, zeroF⟩) (Am.cells ⟨2, n, 0, zeroF⟩) .i64 n (by rfl) (by rfl) g3.out (by simp [Am.cells]) (by simp [Am.cells]) infoInt1 ?_; have g4 := Lib.hid (row_set (cs := Am.cells ⟨2, n, 0, zeroF⟩) g3.out); have S4 := Lib.hid (ASt.setRow S3.out HG0.out (Am.cells ⟨2, n, 0, zeroF⟩)); generalize World.setRow w3 g10 (Am.cells ⟨2, n, 0, zeroF⟩) = w4 at *))
         obtain ⟨p1, hp1⟩ : ∃ p1, Lib.trimPrefix (L (B rr)) countW = p1 := ⟨_, rfl⟩
         have hp1l : p1.length ≤ (L (B rr)).length := by rw [← hp1]; exact Lib.trimPrefix_le _ _
         have hrb : (L (B rr)).length < 100000000 := by rw [L_B]; exact hrrl
         obtain ⟨p2, hp2⟩ : ∃ p2, Lib.trimSuffix (L (B p1)) [41] = p2 := ⟨_, rfl⟩
         have hp2l : p2.length ≤ p1.length := by rw [← hp2, L_B]; exact Lib.trimSuffix_le _ _
         have hp1s : Hid ((B p1).size < 1000000000) := Lib.hid (by rw [B_size]; omega)
         have hp2s : (B p2).size < 100000000 := by rw [B_size]; omega
         have hin : inCount (L (B rr)) = p2 := by unfold inCount; rw [hp1, ← hp2, L_B]
         have FP : ∀ wx, Laid wx → Calls Tryz.prog 88 #[.string (B p2)] wx fun e w' => e = .returned (fltRet (parseS p2)) ∧ Below wx.heap.size wx w' := fun wx hlx => (fltParse_any _ wx hlx hp2s).mono fun e w' h => ⟨by rw [h.1, L_B], h.2⟩
         obtain ⟨f, c, hfc, hff⟩ : ∃ f c, fltRet (parseS p2) = .tuple #[.agg (Flt.cells f), .int .i64 c] ∧ (parseS p2).getD zeroF = f := by
          cases parseS p2 with
          | none => exact ⟨zeroF, 3, rfl, rfl⟩
          | some f => exact ⟨f, 0, rfl, rfl⟩
         rw [hfc] at FP
         have HN : Hid (R = ⟨2, n, 0, f⟩) := Lib.hid (by rw [HT.out, hin, hff])
         have HFP := Lib.hid FP
         have HP1 := Lib.hid hp1
         have HP2 := Lib.hid hp2
         have HG : Hid (w.heap.size < g10) := HG0
         clear hp1 hp2 hp1l hp2l hp2s hrb hin FP hfc hff
         go_wp2_with (first | (rw [wpList_skip_eq]; rotate_left; · rfl) | (go_at_call 182; (with_reducible refine (trimPreM_is (B rr) ⟨#[99, 111, 117, 110, 116, 40]⟩ _ countW rfl p1 HP1).mono ?_); rintro e wu ⟨rfl, rfl⟩) | (go_at_call 180; (with_reducible refine (trimSufM_is (B p1) ⟨#[41]⟩ _ hp1s.out [41] rfl p2 HP2).mono ?_); rintro e wu ⟨rfl, rfl⟩) | (go_at_call 88; (with_reducible refine (HFP.out _ (hl.below (ASt.bel S4.out)).base).mono ?_); rintro e w5 ⟨rfl, hb5⟩; have S5 := Lib.hid (ASt.below S4.out hb5); have g5 := Lib.hid (blk_below2 hb5 g4.out)) | (refine wpList_store_part (by rfl) TF _ _ (by rfl) g10 3 TAm (Am.cells ⟨2, n, 0, zeroF⟩) f.cells (Am.cells ⟨2, n, 0, f⟩) (by rfl) (by rfl) g5.out (by simp [Am.cells, Flt.cells]) (am_put _ f) infoTF (cells_one _) ?_; have g6 := Lib.hid (row_set (cs := Am.cells ⟨2, n, 0, f⟩) g5.out); have S6 := Lib.hid (ASt.setRow S5.out HG.out (Am.cells ⟨2, n, 0, f⟩)); generalize World.setRow w5 g10 (Am.cells ⟨2, n, 0, f⟩) = w6 at *) | refine wpList_load_row_g (by rfl) TAm _ (by rfl) g10 (by rfl) TAm (Am.cells ⟨2, n, 0, f⟩) (0, 0) _ g6.out Tryz.underlying29 rfl infoTAm ?_ | refine wpList_store_row (by rfl) TAm _ _ (by rfl) w.heap.size (Am.cells ⟨2, n, 0, f⟩) (by rfl) (by rfl) TAm zeroA.cells S6.out.1 infoTAm rfl (acells_one _) ?_)
         exact bodyPost_ret (results_cell_row rfl _ _ w.heap.size TAm (Am.cells ⟨2, n, 0, f⟩) (0, 0) _ rfl (row_set S6.out.1) Tryz.underlying29 rfl infoTAm) rfl ⟨ret_val (by rw [HN.out]), below_setRow S6.out.2 (Nat.le_refl _) _⟩
def amRet (o : Option Am) : Value := match o with | some r => .tuple #[.agg r.cells, .int .i64 0] | none => .tuple #[.agg zeroA.cells, .int .i64 3]
theorem guess_is (s : ByteArray) (a : Am) (h : Hid (guessA (L s) = a)) (hs : s.size < 100000000) (w : World) (hl : LaidM w) : Calls Tryz.prog 139 #[.string s] w fun e w' => e = .returned (.agg a.cells) ∧ Below w.heap.size w w' :=
 (guess_any s w hl hs).mono fun e w' h' => ⟨by rw [h'.1, h.out], h'.2⟩
theorem aParse_empty (s : ByteArray) (h0 : s = ⟨#[]⟩) (hs : s.size < 100000000) (a : Am) (HG : Hid (guessA (L s) = a)) (w : World) (hl : LaidM w) :
 Calls Tryz.prog 84 #[.string s] w fun e w' => e = .returned (.tuple #[.agg zeroA.cells, .int .i64 3]) ∧ Below w.heap.size w w' := by
 subst h0
 have hss8 : Hid ((⟨#[]⟩ : ByteArray).size < 100000000) := Lib.hid hs
 have hl1 := hl.alloc (.cells zeroA.cells TAm)
 have S0 : Hid (ASt w (w.alloc (.cells zeroA.cells TAm))) := Lib.hid ⟨heap_alloc_new w _, (Below.refl _ _).alloc (Nat.le_refl _) _⟩
 go_enter Tryz.func84, Tryz.ntmps84
 go_wp2_with (first | (rw [wpList_skip_eq]; rotate_left; · rfl) | (go_at_call 139; (refine (guess_is ⟨#[]⟩ a HG hss8.out _ hl1).mono ?_); rintro e w1 ⟨rfl, hb1⟩; have S1 := Lib.hid (ASt.below S0.out hb1)) | (refine wpList_store_row (by rfl) TAm _ _ (by rfl) w1.heap.size a.cells (by rfl) (by rfl) TAm zeroA.cells (heap_alloc_new w1 _) infoTAm rfl (acells_one _) ?_; change wpList _ _ _ _ _ (stored w1 TAm zeroA.cells a.cells); have g2 := Lib.hid (stored_new w1 TAm zeroA.cells a.cells); have S2 := Lib.hid (ASt.below S1.out (stored_below w1 TAm zeroA.cells a.cells)); have hl2 := hl.below S2.out.2; generalize stored w1 TAm zeroA.cells a.cells = w2 at *) | refine wpList_store_row (by rfl) TAm _ _ (by rfl) w.heap.size zeroA.cells (by rfl) (by rfl) TAm zeroA.cells S2.out.1 infoTAm rfl (acells_one _) ?_)
 exact bodyPost_ret (results_row_tmp rfl _ _ w.heap.size TAm zeroA.cells (0, 0) _ rfl (row_set S2.out.1) Tryz.underlying29 rfl infoTAm) rfl ⟨rfl, below_setRow S2.out.2 (Nat.le_refl _) _⟩
theorem aParse_no (s : ByteArray) (t0 : ¬ s.toList = []) (t1 : s.toList.isEmpty = false) (hs : s.size < 100000000) (a : Am) (T : ByteArray) (HG : Hid (guessA (L s) = a)) (HT : Hid (B (amText a) = T)) (t3 : (T.toList == s.toList) = false) (w : World) (hl : LaidM w) :
 Calls Tryz.prog 84 #[.string s] w fun e w' => e = .returned (.tuple #[.agg zeroA.cells, .int .i64 3]) ∧ Below w.heap.size w w' := by
 have hss8 : Hid (s.size < 100000000) := Lib.hid hs
 have hl1 := hl.alloc (.cells zeroA.cells TAm)
 have S0 : Hid (ASt w (w.alloc (.cells zeroA.cells TAm))) := Lib.hid ⟨heap_alloc_new w _, (Below.refl _ _).alloc (Nat.le_refl _) _⟩
 have t4 : (!T.toList == s.toList) = true := by rw [t3]; rfl
 go_enter Tryz.func84, Tryz.ntmps84
 go_wp2_with (first | (rw [wpList_skip_eq]; rotate_left; · rfl) | (go_at_call 139; (refine (guess_is s a HG hss8.out _ hl1).mono ?_); rintro e w1 ⟨rfl, hb1⟩; have S1 := Lib.hid (ASt.below S0.out hb1)) | (refine wpList_store_row (by rfl) TAm _ _ (by rfl) w1.heap.size a.cells (by rfl) (by rfl) TAm zeroA.cells (heap_alloc_new w1 _) infoTAm rfl (acells_one _) ?_; change wpList _ _ _ _ _ (stored w1 TAm zeroA.cells a.cells); have g2 := Lib.hid (stored_new w1 TAm zeroA.cells a.cells); have S2 := Lib.hid (ASt.below S1.out (stored_below w1 TAm zeroA.cells a.cells)); have hl2 := hl.below S2.out.2; generalize stored w1 TAm zeroA.cells a.cells = w2 at *) | refine wpList_load_row_g (by rfl) TAm _ (by rfl) w1.heap.size (by rfl) TAm a.cells (0, 0) _ g2.out Tryz.underlying29 rfl infoTAm ?_ | (go_at_call 41; (with_reducible refine (aText_is a T HT _ hl2).mono ?_); rintro e w3 ⟨rfl, hb3⟩; have S3 := Lib.hid (ASt.below S2.out hb3); have g3 := Lib.hid (blk_below2 hb3 g2.out)) | refine wpList_store_row (by rfl) TAm _ _ (by rfl) w.heap.size zeroA.cells (by rfl) (by rfl) TAm zeroA.cells S3.out.1 infoTAm rfl (acells_one _) ?_)
 exact bodyPost_ret (results_row_tmp rfl _ _ w.heap.size TAm zeroA.cells (0, 0) _ rfl (row_set S3.out.1) Tryz.underlying29 rfl infoTAm) rfl ⟨rfl, below_setRow S3.out.2 (Nat.le_refl _) _⟩
theorem aParse_yes (s : ByteArray) (t0 : ¬ s.toList = []) (t1 : s.toList.isEmpty = false) (hs : s.size < 100000000) (a : Am) (T : ByteArray) (HG : Hid (guessA (L s) = a)) (HT : Hid (B (amText a) = T)) (t3 : (T.toList == s.toList) = true) (w : World) (hl : LaidM w) :
 Calls Tryz.prog 84 #[.string s] w fun e w' => e = .returned (.tuple #[.agg a.cells, .int .i64 0]) ∧ Below w.heap.size w w' := by
 have hss8 : Hid (s.size < 100000000) := Lib.hid hs
 have hl1 := hl.alloc (.cells zeroA.cells TAm)
 have S0 : Hid (ASt w (w.alloc (.cells zeroA.cells TAm))) := Lib.hid ⟨heap_alloc_new w _, (Below.refl _ _).alloc (Nat.le_refl _) _⟩
 go_enter Tryz.func84, Tryz.ntmps84
 go_wp2_with (first | (rw [wpList_skip_eq]; rotate_left; · rfl) | (go_at_call 139; (refine (guess_is s a HG hss8.out _ hl1).mono ?_); rintro e w1 ⟨rfl, hb1⟩; have S1 := Lib.hid (ASt.below S0.out hb1)) | (refine wpList_store_row (by rfl) TAm _ _ (by rfl) w1.heap.size a.cells (by rfl) (by rfl) TAm zeroA.cells (heap_alloc_new w1 _) infoTAm rfl (acells_one _) ?_; change wpList _ _ _ _ _ (stored w1 TAm zeroA.cells a.cells); have g2 := Lib.hid (stored_new w1 TAm zeroA.cells a.cells); have S2 := Lib.hid (ASt.below S1.out (stored_below w1 TAm zeroA.cells a.cells)); have hl2 := hl.below S2.out.2; generalize stored w1 TAm zeroA.cells a.cells = w2 at *) | refine wpList_load_row_g (by rfl) TAm _ (by rfl) w1.heap.size (by rfl) TAm a.cells (0, 0) _ g3.out Tryz.underlying29 rfl infoTAm ?_ | refine wpList_load_row_g (by rfl) TAm _ (by rfl) w1.heap.size (by rfl) TAm a.cells (0, 0) _ g2.out Tryz.underlying29 rfl infoTAm ?_ | (go_at_call 41; (with_reducible refine (aText_is a T HT _ hl2).mono ?_); rintro e w3 ⟨rfl, hb3⟩; have S3 := Lib.hid (ASt.below S2.out hb3); have g3 := Lib.hid (blk_below2 hb3 g2.out)) | refine wpList_store_row (by rfl) TAm _ _ (by rfl) w.heap.size a.cells (by rfl) (by rfl) TAm zeroA.cells S3.out.1 infoTAm rfl (acells_one _) ?_)
 exact bodyPost_ret (results_row_tmp rfl _ _ w.heap.size TAm a.cells (0, 0) _ rfl (row_set S3.out.1) Tryz.underlying29 rfl infoTAm) rfl ⟨rfl, below_setRow S3.out.2 (Nat.le_refl _) _⟩
theorem aParse_any (s : ByteArray) (w : World) (hl : LaidM w) (hs : s.size < 100000000) :
 Calls Tryz.prog 84 #[.string s] w fun e w' => e = .returned (amRet (amParse (L s))) ∧ Below w.heap.size w w' := by
 by_cases h0 : L s = []
 ·have e : s = ⟨#[]⟩ := L_inj h0
  rw [show amParse (L s) = none by rw [h0]; exact amParse_empty]
  exact aParse_empty s e hs _ (Lib.hid rfl) w hl
 ·have t0 : ¬ s.toList = [] := by rw [L_toList]; exact h0
  have t1 : s.toList.isEmpty = false := by simpa using t0
  by_cases ht : amText (guessA (L s)) = L s
  ·rw [show amParse (L s) = some (guessA (L s)) from if_pos ⟨h0, ht⟩]
   exact aParse_yes s t0 t1 hs _ _ (Lib.hid rfl) (Lib.hid rfl) (by rw [B_toList, L_toList]; simpa using ht) w hl
  ·rw [show amParse (L s) = none from if_neg (fun h => ht h.2)]
   exact aParse_no s t0 t1 hs _ _ (Lib.hid rfl) (Lib.hid rfl) (by rw [B_toList, L_toList]; simpa using ht) w hl
end Go.Proofs.YtdnnbfbhifelkaaGreatDoor
