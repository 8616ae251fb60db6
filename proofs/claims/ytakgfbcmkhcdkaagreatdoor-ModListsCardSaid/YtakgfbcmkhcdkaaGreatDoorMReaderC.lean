/- Walks: package filter: the reader's bounds. Conditions: Laid. -/
import Derived.Test.YtakgfbcmkhcdkaaGreatDoorRdr
import Derived.RegionTactic
import Derived.ChangeAlike
import Derived.Lib.IndexLaws
namespace Go.Proofs.YtakgfbcmkhcdkaaGreatDoor
set_option linter.all false
open Go.ChangeShapes Go.WideShapes Go.RowKit
theorem indexEq (s : ByteArray) (w : World) (at_ : Int) (h : Lib.indexByte (L s) 61 = at_) :
    Calls Tryz.prog 155 #[.string s, .int .u8 61] w fun e w' => e = .returned (.int .i64 at_) ∧ w = w' := by
  subst h; exact indexByte_any s 61 w
theorem number_ret (s : ByteArray) (n : Int) (ok : Bool) (h : numRet (numOf (L s)) = .tuple #[.int .i64 n, .bool ok]) (w : World) (hl : Laid w) (hs : s.size < 4294967281) :
    Calls Tryz.prog 139 #[.string s] w fun e w' => e = .returned (.tuple #[.int .i64 n, .bool ok]) ∧ Below w.heap.size w w' :=
  (number_any s w hl hs).mono fun e w' ⟨he, hb⟩ => ⟨by rw [he, h], hb⟩
theorem Rd.alloc {w : World} {b g : Nat} {f : Flt} (h : Rd w b g f) (o : Obj) : Rd (w.alloc o) b g f := h.below ((Below.refl _ _).alloc (Nat.le_refl _) _)
theorem Rd.drew {w : World} {b g : Nat} {f : Flt} (h : Rd w b g f) : Rd w.drew b g f := h
/-- The kind of a bound and its name, out of what stands ahead of the sign =. -/
def boundHead (nm : Str) : Nat × Str := if byt nm (nm.length - 1) = 62 then (1, nm.take (nm.length - 1)) else if byt nm (nm.length - 1) = 60 then (2, nm.take (nm.length - 1)) else (3, nm)
def setBound (f : Flt) (nm : Str) (k n : Int) : Option Flt := if nm = powerW then some { f with pk := k, pn := n } else if nm = toughW then some { f with tk := k, tn := n } else if nm = valueW then some { f with vk := k, vn := n } else none
def boundS (f : Flt) (s : Str) : Option Flt :=
  if Lib.indexByte s 61 < 1 then none else
    match numOf (s.drop ((Lib.indexByte s 61).toNat + 1)) with
    | some n => setBound f (boundHead (s.take (Lib.indexByte s 61).toNat)).2 (boundHead (s.take (Lib.indexByte s 61).toNat)).1 n
    | none => none
set_option maxRecDepth 100000 in
theorem bound_62_0 (s nm nm2 rs : ByteArray) (f : Flt) (a : Nat) (n : Int) (ok : Bool) (w : World) (b g : Nat) (hw : Rd w b g f) (hl : Laid w) (hs : s.size < 4294967281)
    (hix : Hid (Lib.indexByte (L s) 61 = (a : Int))) (ha : 1 ≤ a) (has : a < s.size) (hnm : s.extract 0 a = nm) (hrs : s.extract (a + 1) s.size = rs) (hnm2 : nm.extract 0 (a - 1) = nm2) (hns : nm.size = a)
    (hn : Hid (numRet (numOf (L rs)) = .tuple #[.int .i64 n, .bool ok])) (h62 : ((byt (L nm) (a - 1) : Nat) : Int) = 62) (p0 : Hid (L nm2 = [112, 111, 119, 101, 114])) :
    Calls Tryz.prog 184 #[.pointer (some ⟨g, 0, none⟩), .string s] w fun e w' => e = .returned (.bool ok) ∧ Rd w' b g { f with pk := 1, pn := n } ∧ Fr g b w w' := by
  have hrl : rs.size < 4294967281 := by rw [← hrs, ByteArray.size_extract]; omega
  have hgn := get_l nm
  have hbw : b ≤ w.heap.size := by have := hw.lt; have := hw.2; omega
  have t0 : (nm2.toList == [112, 111, 119, 101, 114]) = true := toList_lit_yes p0.out
  go_enter Tryz.func184, Tryz.ntmps184
  go_wp2_with (first | (go_at_call 155; (with_reducible refine (indexEq _ _ _ hix.out).mono ?_); rintro e w0 ⟨rfl, rfl⟩) | (go_at_call 139; (with_reducible refine (number_ret rs n ok hn.out _ hl hrl).mono ?_); rintro e w1 ⟨rfl, hb1⟩; have hw1 := hw.below hb1; have hbb : Fr g b w w1 := Fr.of hb1 hbw; have hbs := Nat.le_trans hbw hb1.size; have c3 : w1.cell? ⟨g, 10, none⟩ = some (.int .i64 f.pk) := hw1.cell 10; have c4 : w1.cell? ⟨g, 11, none⟩ = some (.int .i64 f.pn) := hw1.cell 11; have f3 := hw1.free 10; have f4 := hw1.free 11; have hlt := hw1.lt; have hlt2 : g ≠ w1.heap.size := Nat.ne_of_lt hlt))
  go_region
  all_goals go_wp2
  all_goals
    go_ret
    refine ⟨rfl, ?_, ?_⟩
    · exact Rd.drew (((hw1.set_ (f' := { f with pk := 1 }) 10 (.int .i64 1) rfl).set_ (f' := { f with pk := 1, pn := n }) 11 (.int .i64 n) rfl).alloc _)
    · exact (((hbb.setCell hw.2 _).setCell hw.2 _).alloc (by simp [World.setCell]; exact hbs) _).drew
set_option maxRecDepth 100000 in
theorem bound_62_1 (s nm nm2 rs : ByteArray) (f : Flt) (a : Nat) (n : Int) (ok : Bool) (w : World) (b g : Nat) (hw : Rd w b g f) (hl : Laid w) (hs : s.size < 4294967281)
    (hix : Hid (Lib.indexByte (L s) 61 = (a : Int))) (ha : 1 ≤ a) (has : a < s.size) (hnm : s.extract 0 a = nm) (hrs : s.extract (a + 1) s.size = rs) (hnm2 : nm.extract 0 (a - 1) = nm2) (hns : nm.size = a)
    (hn : Hid (numRet (numOf (L rs)) = .tuple #[.int .i64 n, .bool ok])) (h62 : ((byt (L nm) (a - 1) : Nat) : Int) = 62) (p0 : Hid (¬ L nm2 = [112, 111, 119, 101, 114])) (p1 : Hid (L nm2 = [116, 111, 117, 103, 104])) :
    Calls Tryz.prog 184 #[.pointer (some ⟨g, 0, none⟩), .string s] w fun e w' => e = .returned (.bool ok) ∧ Rd w' b g { f with tk := 1, tn := n } ∧ Fr g b w w' := by
  have hrl : rs.size < 4294967281 := by rw [← hrs, ByteArray.size_extract]; omega
  have hgn := get_l nm
  have hbw : b ≤ w.heap.size := by have := hw.lt; have := hw.2; omega
  have t0 : (nm2.toList == [112, 111, 119, 101, 114]) = false := toList_lit_no p0.out
  have t1 : (nm2.toList == [116, 111, 117, 103, 104]) = true := toList_lit_yes p1.out
  go_enter Tryz.func184, Tryz.ntmps184
  go_wp2_with (first | (go_at_call 155; (with_reducible refine (indexEq _ _ _ hix.out).mono ?_); rintro e w0 ⟨rfl, rfl⟩) | (go_at_call 139; (with_reducible refine (number_ret rs n ok hn.out _ hl hrl).mono ?_); rintro e w1 ⟨rfl, hb1⟩; have hw1 := hw.below hb1; have hbb : Fr g b w w1 := Fr.of hb1 hbw; have hbs := Nat.le_trans hbw hb1.size; have c3 : w1.cell? ⟨g, 12, none⟩ = some (.int .i64 f.tk) := hw1.cell 12; have c4 : w1.cell? ⟨g, 13, none⟩ = some (.int .i64 f.tn) := hw1.cell 13; have f3 := hw1.free 12; have f4 := hw1.free 13; have hlt := hw1.lt; have hlt2 : g ≠ w1.heap.size := Nat.ne_of_lt hlt))
  go_region
  all_goals go_wp2
  all_goals
    go_ret
    refine ⟨rfl, ?_, ?_⟩
    · exact Rd.drew (((hw1.set_ (f' := { f with tk := 1 }) 12 (.int .i64 1) rfl).set_ (f' := { f with tk := 1, tn := n }) 13 (.int .i64 n) rfl).alloc _)
    · exact (((hbb.setCell hw.2 _).setCell hw.2 _).alloc (by simp [World.setCell]; exact hbs) _).drew
set_option maxRecDepth 100000 in
theorem bound_62_2 (s nm nm2 rs : ByteArray) (f : Flt) (a : Nat) (n : Int) (ok : Bool) (w : World) (b g : Nat) (hw : Rd w b g f) (hl : Laid w) (hs : s.size < 4294967281)
    (hix : Hid (Lib.indexByte (L s) 61 = (a : Int))) (ha : 1 ≤ a) (has : a < s.size) (hnm : s.extract 0 a = nm) (hrs : s.extract (a + 1) s.size = rs) (hnm2 : nm.extract 0 (a - 1) = nm2) (hns : nm.size = a)
    (hn : Hid (numRet (numOf (L rs)) = .tuple #[.int .i64 n, .bool ok])) (h62 : ((byt (L nm) (a - 1) : Nat) : Int) = 62) (p0 : Hid (¬ L nm2 = [112, 111, 119, 101, 114])) (p1 : Hid (¬ L nm2 = [116, 111, 117, 103, 104])) (p2 : Hid (L nm2 = [118, 97, 108, 117, 101])) :
    Calls Tryz.prog 184 #[.pointer (some ⟨g, 0, none⟩), .string s] w fun e w' => e = .returned (.bool ok) ∧ Rd w' b g { f with vk := 1, vn := n } ∧ Fr g b w w' := by
  have hrl : rs.size < 4294967281 := by rw [← hrs, ByteArray.size_extract]; omega
  have hgn := get_l nm
  have hbw : b ≤ w.heap.size := by have := hw.lt; have := hw.2; omega
  have t0 : (nm2.toList == [112, 111, 119, 101, 114]) = false := toList_lit_no p0.out
  have t1 : (nm2.toList == [116, 111, 117, 103, 104]) = false := toList_lit_no p1.out
  have t2 : (nm2.toList == [118, 97, 108, 117, 101]) = true := toList_lit_yes p2.out
  go_enter Tryz.func184, Tryz.ntmps184
  go_wp2_with (first | (go_at_call 155; (with_reducible refine (indexEq _ _ _ hix.out).mono ?_); rintro e w0 ⟨rfl, rfl⟩) | (go_at_call 139; (with_reducible refine (number_ret rs n ok hn.out _ hl hrl).mono ?_); rintro e w1 ⟨rfl, hb1⟩; have hw1 := hw.below hb1; have hbb : Fr g b w w1 := Fr.of hb1 hbw; have hbs := Nat.le_trans hbw hb1.size; have c3 : w1.cell? ⟨g, 14, none⟩ = some (.int .i64 f.vk) := hw1.cell 14; have c4 : w1.cell? ⟨g, 15, none⟩ = some (.int .i64 f.vn) := hw1.cell 15; have f3 := hw1.free 14; have f4 := hw1.free 15; have hlt := hw1.lt; have hlt2 : g ≠ w1.heap.size := Nat.ne_of_lt hlt))
  go_region
  all_goals go_wp2
  all_goals
    go_ret
    refine ⟨rfl, ?_, ?_⟩
    · exact Rd.drew (((hw1.set_ (f' := { f with vk := 1 }) 14 (.int .i64 1) rfl).set_ (f' := { f with vk := 1, vn := n }) 15 (.int .i64 n) rfl).alloc _)
    · exact (((hbb.setCell hw.2 _).setCell hw.2 _).alloc (by simp [World.setCell]; exact hbs) _).drew
set_option maxRecDepth 100000 in
theorem bound_62_3 (s nm nm2 rs : ByteArray) (f : Flt) (a : Nat) (n : Int) (ok : Bool) (w : World) (b g : Nat) (hw : Rd w b g f) (hl : Laid w) (hs : s.size < 4294967281)
    (hix : Hid (Lib.indexByte (L s) 61 = (a : Int))) (ha : 1 ≤ a) (has : a < s.size) (hnm : s.extract 0 a = nm) (hrs : s.extract (a + 1) s.size = rs) (hnm2 : nm.extract 0 (a - 1) = nm2) (hns : nm.size = a)
    (hn : Hid (numRet (numOf (L rs)) = .tuple #[.int .i64 n, .bool ok])) (h62 : ((byt (L nm) (a - 1) : Nat) : Int) = 62) (p0 : Hid (¬ L nm2 = [112, 111, 119, 101, 114])) (p1 : Hid (¬ L nm2 = [116, 111, 117, 103, 104])) (p2 : Hid (¬ L nm2 = [118, 97, 108, 117, 101])) :
    Calls Tryz.prog 184 #[.pointer (some ⟨g, 0, none⟩), .string s] w fun e w' => e = .returned (.bool false) ∧ Rd w' b g f ∧ Fr g b w w' := by
  have hrl : rs.size < 4294967281 := by rw [← hrs, ByteArray.size_extract]; omega
  have hgn := get_l nm
  have hbw : b ≤ w.heap.size := by have := hw.lt; have := hw.2; omega
  have t0 : (nm2.toList == [112, 111, 119, 101, 114]) = false := toList_lit_no p0.out
  have t1 : (nm2.toList == [116, 111, 117, 103, 104]) = false := toList_lit_no p1.out
  have t2 : (nm2.toList == [118, 97, 108, 117, 101]) = false := toList_lit_no p2.out
  go_enter Tryz.func184, Tryz.ntmps184
  go_wp2_with (first | (go_at_call 155; (with_reducible refine (indexEq _ _ _ hix.out).mono ?_); rintro e w0 ⟨rfl, rfl⟩) | (go_at_call 139; (with_reducible refine (number_ret rs n ok hn.out _ hl hrl).mono ?_); rintro e w1 ⟨rfl, hb1⟩; have hw1 := hw.below hb1; have hbb : Fr g b w w1 := Fr.of hb1 hbw; have hbs := Nat.le_trans hbw hb1.size))
  go_region
  all_goals go_wp2
  all_goals
    go_ret
    refine ⟨rfl, ?_, ?_⟩
    · first
        | exact hw1.alloc _
        | exact Rd.drew (hw1.alloc _)
    · first
        | exact hbb.alloc hbs _
        | exact (hbb.alloc hbs _).drew
set_option maxRecDepth 100000 in
theorem bound_60_0 (s nm nm2 rs : ByteArray) (f : Flt) (a : Nat) (n : Int) (ok : Bool) (w : World) (b g : Nat) (hw : Rd w b g f) (hl : Laid w) (hs : s.size < 4294967281)
    (hix : Hid (Lib.indexByte (L s) 61 = (a : Int))) (ha : 1 ≤ a) (has : a < s.size) (hnm : s.extract 0 a = nm) (hrs : s.extract (a + 1) s.size = rs) (hnm2 : nm.extract 0 (a - 1) = nm2) (hns : nm.size = a)
    (hn : Hid (numRet (numOf (L rs)) = .tuple #[.int .i64 n, .bool ok])) (h62 : (((byt (L nm) (a - 1) : Nat) : Int) == 62) = false) (h60 : ((byt (L nm) (a - 1) : Nat) : Int) = 60) (p0 : Hid (L nm2 = [112, 111, 119, 101, 114])) :
    Calls Tryz.prog 184 #[.pointer (some ⟨g, 0, none⟩), .string s] w fun e w' => e = .returned (.bool ok) ∧ Rd w' b g { f with pk := 2, pn := n } ∧ Fr g b w w' := by
  have hrl : rs.size < 4294967281 := by rw [← hrs, ByteArray.size_extract]; omega
  have hgn := get_l nm
  have hbw : b ≤ w.heap.size := by have := hw.lt; have := hw.2; omega
  have t0 : (nm2.toList == [112, 111, 119, 101, 114]) = true := toList_lit_yes p0.out
  go_enter Tryz.func184, Tryz.ntmps184
  go_wp2_with (first | (go_at_call 155; (with_reducible refine (indexEq _ _ _ hix.out).mono ?_); rintro e w0 ⟨rfl, rfl⟩) | (go_at_call 139; (with_reducible refine (number_ret rs n ok hn.out _ hl hrl).mono ?_); rintro e w1 ⟨rfl, hb1⟩; have hw1 := hw.below hb1; have hbb : Fr g b w w1 := Fr.of hb1 hbw; have hbs := Nat.le_trans hbw hb1.size; have c3 : w1.cell? ⟨g, 10, none⟩ = some (.int .i64 f.pk) := hw1.cell 10; have c4 : w1.cell? ⟨g, 11, none⟩ = some (.int .i64 f.pn) := hw1.cell 11; have f3 := hw1.free 10; have f4 := hw1.free 11; have hlt := hw1.lt; have hlt2 : g ≠ w1.heap.size := Nat.ne_of_lt hlt))
  go_region
  all_goals go_wp2
  all_goals
    go_ret
    refine ⟨rfl, ?_, ?_⟩
    · exact Rd.drew (((hw1.set_ (f' := { f with pk := 2 }) 10 (.int .i64 2) rfl).set_ (f' := { f with pk := 2, pn := n }) 11 (.int .i64 n) rfl).alloc _)
    · exact (((hbb.setCell hw.2 _).setCell hw.2 _).alloc (by simp [World.setCell]; exact hbs) _).drew
set_option maxRecDepth 100000 in
theorem bound_60_1 (s nm nm2 rs : ByteArray) (f : Flt) (a : Nat) (n : Int) (ok : Bool) (w : World) (b g : Nat) (hw : Rd w b g f) (hl : Laid w) (hs : s.size < 4294967281)
    (hix : Hid (Lib.indexByte (L s) 61 = (a : Int))) (ha : 1 ≤ a) (has : a < s.size) (hnm : s.extract 0 a = nm) (hrs : s.extract (a + 1) s.size = rs) (hnm2 : nm.extract 0 (a - 1) = nm2) (hns : nm.size = a)
    (hn : Hid (numRet (numOf (L rs)) = .tuple #[.int .i64 n, .bool ok])) (h62 : (((byt (L nm) (a - 1) : Nat) : Int) == 62) = false) (h60 : ((byt (L nm) (a - 1) : Nat) : Int) = 60) (p0 : Hid (¬ L nm2 = [112, 111, 119, 101, 114])) (p1 : Hid (L nm2 = [116, 111, 117, 103, 104])) :
    Calls Tryz.prog 184 #[.pointer (some ⟨g, 0, none⟩), .string s] w fun e w' => e = .returned (.bool ok) ∧ Rd w' b g { f with tk := 2, tn := n } ∧ Fr g b w w' := by
  have hrl : rs.size < 4294967281 := by rw [← hrs, ByteArray.size_extract]; omega
  have hgn := get_l nm
  have hbw : b ≤ w.heap.size := by have := hw.lt; have := hw.2; omega
  have t0 : (nm2.toList == [112, 111, 119, 101, 114]) = false := toList_lit_no p0.out
  have t1 : (nm2.toList == [116, 111, 117, 103, 104]) = true := toList_lit_yes p1.out
  go_enter Tryz.func184, Tryz.ntmps184
  go_wp2_with (first | (go_at_call 155; (with_reducible refine (indexEq _ _ _ hix.out).mono ?_); rintro e w0 ⟨rfl, rfl⟩) | (go_at_call 139; (with_reducible refine (number_ret rs n ok hn.out _ hl hrl).mono ?_); rintro e w1 ⟨rfl, hb1⟩; have hw1 := hw.below hb1; have hbb : Fr g b w w1 := Fr.of hb1 hbw; have hbs := Nat.le_trans hbw hb1.size; have c3 : w1.cell? ⟨g, 12, none⟩ = some (.int .i64 f.tk) := hw1.cell 12; have c4 : w1.cell? ⟨g, 13, none⟩ = some (.int .i64 f.tn) := hw1.cell 13; have f3 := hw1.free 12; have f4 := hw1.free 13; have hlt := hw1.lt; have hlt2 : g ≠ w1.heap.size := Nat.ne_of_lt hlt))
  go_region
  all_goals go_wp2
  all_goals
    go_ret
    refine ⟨rfl, ?_, ?_⟩
    · exact Rd.drew (((hw1.set_ (f' := { f with tk := 2 }) 12 (.int .i64 2) rfl).set_ (f' := { f with tk := 2, tn := n }) 13 (.int .i64 n) rfl).alloc _)
    · exact (((hbb.setCell hw.2 _).setCell hw.2 _).alloc (by simp [World.setCell]; exact hbs) _).drew
set_option maxRecDepth 100000 in
theorem bound_60_2 (s nm nm2 rs : ByteArray) (f : Flt) (a : Nat) (n : Int) (ok : Bool) (w : World) (b g : Nat) (hw : Rd w b g f) (hl : Laid w) (hs : s.size < 4294967281)
    (hix : Hid (Lib.indexByte (L s) 61 = (a : Int))) (ha : 1 ≤ a) (has : a < s.size) (hnm : s.extract 0 a = nm) (hrs : s.extract (a + 1) s.size = rs) (hnm2 : nm.extract 0 (a - 1) = nm2) (hns : nm.size = a)
    (hn : Hid (numRet (numOf (L rs)) = .tuple #[.int .i64 n, .bool ok])) (h62 : (((byt (L nm) (a - 1) : Nat) : Int) == 62) = false) (h60 : ((byt (L nm) (a - 1) : Nat) : Int) = 60) (p0 : Hid (¬ L nm2 = [112, 111, 119, 101, 114])) (p1 : Hid (¬ L nm2 = [116, 111, 117, 103, 104])) (p2 : Hid (L nm2 = [118, 97, 108, 117, 101])) :
    Calls Tryz.prog 184 #[.pointer (some ⟨g, 0, none⟩), .string s] w fun e w' => e = .returned (.bool ok) ∧ Rd w' b g { f with vk := 2, vn := n } ∧ Fr g b w w' := by
  have hrl : rs.size < 4294967281 := by rw [← hrs, ByteArray.size_extract]; omega
  have hgn := get_l nm
  have hbw : b ≤ w.heap.size := by have := hw.lt; have := hw.2; omega
  have t0 : (nm2.toList == [112, 111, 119, 101, 114]) = false := toList_lit_no p0.out
  have t1 : (nm2.toList == [116, 111, 117, 103, 104]) = false := toList_lit_no p1.out
  have t2 : (nm2.toList == [118, 97, 108, 117, 101]) = true := toList_lit_yes p2.out
  go_enter Tryz.func184, Tryz.ntmps184
  go_wp2_with (first | (go_at_call 155; (with_reducible refine (indexEq _ _ _ hix.out).mono ?_); rintro e w0 ⟨rfl, rfl⟩) | (go_at_call 139; (with_reducible refine (number_ret rs n ok hn.out _ hl hrl).mono ?_); rintro e w1 ⟨rfl, hb1⟩; have hw1 := hw.below hb1; have hbb : Fr g b w w1 := Fr.of hb1 hbw; have hbs := Nat.le_trans hbw hb1.size; have c3 : w1.cell? ⟨g, 14, none⟩ = some (.int .i64 f.vk) := hw1.cell 14; have c4 : w1.cell? ⟨g, 15, none⟩ = some (.int .i64 f.vn) := hw1.cell 15; have f3 := hw1.free 14; have f4 := hw1.free 15; have hlt := hw1.lt; have hlt2 : g ≠ w1.heap.size := Nat.ne_of_lt hlt))
  go_region
  all_goals go_wp2
  all_goals
    go_ret
    refine ⟨rfl, ?_, ?_⟩
    · exact Rd.drew (((hw1.set_ (f' := { f with vk := 2 }) 14 (.int .i64 2) rfl).set_ (f' := { f with vk := 2, vn := n }) 15 (.int .i64 n) rfl).alloc _)
    · exact (((hbb.setCell hw.2 _).setCell hw.2 _).alloc (by simp [World.setCell]; exact hbs) _).drew
set_option maxRecDepth 100000 in
theorem bound_60_3 (s nm nm2 rs : ByteArray) (f : Flt) (a : Nat) (n : Int) (ok : Bool) (w : World) (b g : Nat) (hw : Rd w b g f) (hl : Laid w) (hs : s.size < 4294967281)
    (hix : Hid (Lib.indexByte (L s) 61 = (a : Int))) (ha : 1 ≤ a) (has : a < s.size) (hnm : s.extract 0 a = nm) (hrs : s.extract (a + 1) s.size = rs) (hnm2 : nm.extract 0 (a - 1) = nm2) (hns : nm.size = a)
    (hn : Hid (numRet (numOf (L rs)) = .tuple #[.int .i64 n, .bool ok])) (h62 : (((byt (L nm) (a - 1) : Nat) : Int) == 62) = false) (h60 : ((byt (L nm) (a - 1) : Nat) : Int) = 60) (p0 : Hid (¬ L nm2 = [112, 111, 119, 101, 114])) (p1 : Hid (¬ L nm2 = [116, 111, 117, 103, 104])) (p2 : Hid (¬ L nm2 = [118, 97, 108, 117, 101])) :
    Calls Tryz.prog 184 #[.pointer (some ⟨g, 0, none⟩), .string s] w fun e w' => e = .returned (.bool false) ∧ Rd w' b g f ∧ Fr g b w w' := by
  have hrl : rs.size < 4294967281 := by rw [← hrs, ByteArray.size_extract]; omega
  have hgn := get_l nm
  have hbw : b ≤ w.heap.size := by have := hw.lt; have := hw.2; omega
  have t0 : (nm2.toList == [112, 111, 119, 101, 114]) = false := toList_lit_no p0.out
  have t1 : (nm2.toList == [116, 111, 117, 103, 104]) = false := toList_lit_no p1.out
  have t2 : (nm2.toList == [118, 97, 108, 117, 101]) = false := toList_lit_no p2.out
  go_enter Tryz.func184, Tryz.ntmps184
  go_wp2_with (first | (go_at_call 155; (with_reducible refine (indexEq _ _ _ hix.out).mono ?_); rintro e w0 ⟨rfl, rfl⟩) | (go_at_call 139; (with_reducible refine (number_ret rs n ok hn.out _ hl hrl).mono ?_); rintro e w1 ⟨rfl, hb1⟩; have hw1 := hw.below hb1; have hbb : Fr g b w w1 := Fr.of hb1 hbw; have hbs := Nat.le_trans hbw hb1.size))
  go_region
  all_goals go_wp2
  all_goals
    go_ret
    refine ⟨rfl, ?_, ?_⟩
    · first
        | exact hw1.alloc _
        | exact Rd.drew (hw1.alloc _)
    · first
        | exact hbb.alloc hbs _
        | exact (hbb.alloc hbs _).drew
set_option maxRecDepth 100000 in
theorem bound_0_0 (s nm nm2 rs : ByteArray) (f : Flt) (a : Nat) (n : Int) (ok : Bool) (w : World) (b g : Nat) (hw : Rd w b g f) (hl : Laid w) (hs : s.size < 4294967281)
    (hix : Hid (Lib.indexByte (L s) 61 = (a : Int))) (ha : 1 ≤ a) (has : a < s.size) (hnm : s.extract 0 a = nm) (hrs : s.extract (a + 1) s.size = rs) (hnm2 : nm.extract 0 (a - 1) = nm2) (hns : nm.size = a)
    (hn : Hid (numRet (numOf (L rs)) = .tuple #[.int .i64 n, .bool ok])) (h62 : (((byt (L nm) (a - 1) : Nat) : Int) == 62) = false) (h60 : (((byt (L nm) (a - 1) : Nat) : Int) == 60) = false) (p0 : Hid (L nm = [112, 111, 119, 101, 114])) :
    Calls Tryz.prog 184 #[.pointer (some ⟨g, 0, none⟩), .string s] w fun e w' => e = .returned (.bool ok) ∧ Rd w' b g { f with pk := 3, pn := n } ∧ Fr g b w w' := by
  have hrl : rs.size < 4294967281 := by rw [← hrs, ByteArray.size_extract]; omega
  have hgn := get_l nm
  have hbw : b ≤ w.heap.size := by have := hw.lt; have := hw.2; omega
  have t0 : (nm.toList == [112, 111, 119, 101, 114]) = true := toList_lit_yes p0.out
  go_enter Tryz.func184, Tryz.ntmps184
  go_wp2_with (first | (go_at_call 155; (with_reducible refine (indexEq _ _ _ hix.out).mono ?_); rintro e w0 ⟨rfl, rfl⟩) | (go_at_call 139; (with_reducible refine (number_ret rs n ok hn.out _ hl hrl).mono ?_); rintro e w1 ⟨rfl, hb1⟩; have hw1 := hw.below hb1; have hbb : Fr g b w w1 := Fr.of hb1 hbw; have hbs := Nat.le_trans hbw hb1.size; have c3 : w1.cell? ⟨g, 10, none⟩ = some (.int .i64 f.pk) := hw1.cell 10; have c4 : w1.cell? ⟨g, 11, none⟩ = some (.int .i64 f.pn) := hw1.cell 11; have f3 := hw1.free 10; have f4 := hw1.free 11; have hlt := hw1.lt; have hlt2 : g ≠ w1.heap.size := Nat.ne_of_lt hlt))
  all_goals
    go_ret
    refine ⟨rfl, ?_, ?_⟩
    · exact ((hw1.set_ (f' := { f with pk := 3 }) 10 (.int .i64 3) rfl).set_ (f' := { f with pk := 3, pn := n }) 11 (.int .i64 n) rfl).alloc _
    · exact ((hbb.setCell hw.2 _).setCell hw.2 _).alloc (by simp [World.setCell]; exact hbs) _
set_option maxRecDepth 100000 in
theorem bound_0_1 (s nm nm2 rs : ByteArray) (f : Flt) (a : Nat) (n : Int) (ok : Bool) (w : World) (b g : Nat) (hw : Rd w b g f) (hl : Laid w) (hs : s.size < 4294967281)
    (hix : Hid (Lib.indexByte (L s) 61 = (a : Int))) (ha : 1 ≤ a) (has : a < s.size) (hnm : s.extract 0 a = nm) (hrs : s.extract (a + 1) s.size = rs) (hnm2 : nm.extract 0 (a - 1) = nm2) (hns : nm.size = a)
    (hn : Hid (numRet (numOf (L rs)) = .tuple #[.int .i64 n, .bool ok])) (h62 : (((byt (L nm) (a - 1) : Nat) : Int) == 62) = false) (h60 : (((byt (L nm) (a - 1) : Nat) : Int) == 60) = false) (p0 : Hid (¬ L nm = [112, 111, 119, 101, 114])) (p1 : Hid (L nm = [116, 111, 117, 103, 104])) :
    Calls Tryz.prog 184 #[.pointer (some ⟨g, 0, none⟩), .string s] w fun e w' => e = .returned (.bool ok) ∧ Rd w' b g { f with tk := 3, tn := n } ∧ Fr g b w w' := by
  have hrl : rs.size < 4294967281 := by rw [← hrs, ByteArray.size_extract]; omega
  have hgn := get_l nm
  have hbw : b ≤ w.heap.size := by have := hw.lt; have := hw.2; omega
  have t0 : (nm.toList == [112, 111, 119, 101, 114]) = false := toList_lit_no p0.out
  have t1 : (nm.toList == [116, 111, 117, 103, 104]) = true := toList_lit_yes p1.out
  go_enter Tryz.func184, Tryz.ntmps184
  go_wp2_with (first | (go_at_call 155; (with_reducible refine (indexEq _ _ _ hix.out).mono ?_); rintro e w0 ⟨rfl, rfl⟩) | (go_at_call 139; (with_reducible refine (number_ret rs n ok hn.out _ hl hrl).mono ?_); rintro e w1 ⟨rfl, hb1⟩; have hw1 := hw.below hb1; have hbb : Fr g b w w1 := Fr.of hb1 hbw; have hbs := Nat.le_trans hbw hb1.size; have c3 : w1.cell? ⟨g, 12, none⟩ = some (.int .i64 f.tk) := hw1.cell 12; have c4 : w1.cell? ⟨g, 13, none⟩ = some (.int .i64 f.tn) := hw1.cell 13; have f3 := hw1.free 12; have f4 := hw1.free 13; have hlt := hw1.lt; have hlt2 : g ≠ w1.heap.size := Nat.ne_of_lt hlt))
  all_goals
    go_ret
    refine ⟨rfl, ?_, ?_⟩
    · exact ((hw1.set_ (f' := { f with tk := 3 }) 12 (.int .i64 3) rfl).set_ (f' := { f with tk := 3, tn := n }) 13 (.int .i64 n) rfl).alloc _
    · exact ((hbb.setCell hw.2 _).setCell hw.2 _).alloc (by simp [World.setCell]; exact hbs) _
set_option maxRecDepth 100000 in
theorem bound_0_2 (s nm nm2 rs : ByteArray) (f : Flt) (a : Nat) (n : Int) (ok : Bool) (w : World) (b g : Nat) (hw : Rd w b g f) (hl : Laid w) (hs : s.size < 4294967281)
    (hix : Hid (Lib.indexByte (L s) 61 = (a : Int))) (ha : 1 ≤ a) (has : a < s.size) (hnm : s.extract 0 a = nm) (hrs : s.extract (a + 1) s.size = rs) (hnm2 : nm.extract 0 (a - 1) = nm2) (hns : nm.size = a)
    (hn : Hid (numRet (numOf (L rs)) = .tuple #[.int .i64 n, .bool ok])) (h62 : (((byt (L nm) (a - 1) : Nat) : Int) == 62) = false) (h60 : (((byt (L nm) (a - 1) : Nat) : Int) == 60) = false) (p0 : Hid (¬ L nm = [112, 111, 119, 101, 114])) (p1 : Hid (¬ L nm = [116, 111, 117, 103, 104])) (p2 : Hid (L nm = [118, 97, 108, 117, 101])) :
    Calls Tryz.prog 184 #[.pointer (some ⟨g, 0, none⟩), .string s] w fun e w' => e = .returned (.bool ok) ∧ Rd w' b g { f with vk := 3, vn := n } ∧ Fr g b w w' := by
  have hrl : rs.size < 4294967281 := by rw [← hrs, ByteArray.size_extract]; omega
  have hgn := get_l nm
  have hbw : b ≤ w.heap.size := by have := hw.lt; have := hw.2; omega
  have t0 : (nm.toList == [112, 111, 119, 101, 114]) = false := toList_lit_no p0.out
  have t1 : (nm.toList == [116, 111, 117, 103, 104]) = false := toList_lit_no p1.out
  have t2 : (nm.toList == [118, 97, 108, 117, 101]) = true := toList_lit_yes p2.out
  go_enter Tryz.func184, Tryz.ntmps184
  go_wp2_with (first | (go_at_call 155; (with_reducible refine (indexEq _ _ _ hix.out).mono ?_); rintro e w0 ⟨rfl, rfl⟩) | (go_at_call 139; (with_reducible refine (number_ret rs n ok hn.out _ hl hrl).mono ?_); rintro e w1 ⟨rfl, hb1⟩; have hw1 := hw.below hb1; have hbb : Fr g b w w1 := Fr.of hb1 hbw; have hbs := Nat.le_trans hbw hb1.size; have c3 : w1.cell? ⟨g, 14, none⟩ = some (.int .i64 f.vk) := hw1.cell 14; have c4 : w1.cell? ⟨g, 15, none⟩ = some (.int .i64 f.vn) := hw1.cell 15; have f3 := hw1.free 14; have f4 := hw1.free 15; have hlt := hw1.lt; have hlt2 : g ≠ w1.heap.size := Nat.ne_of_lt hlt))
  all_goals
    go_ret
    refine ⟨rfl, ?_, ?_⟩
    · exact ((hw1.set_ (f' := { f with vk := 3 }) 14 (.int .i64 3) rfl).set_ (f' := { f with vk := 3, vn := n }) 15 (.int .i64 n) rfl).alloc _
    · exact ((hbb.setCell hw.2 _).setCell hw.2 _).alloc (by simp [World.setCell]; exact hbs) _
set_option maxRecDepth 100000 in
theorem bound_0_3 (s nm nm2 rs : ByteArray) (f : Flt) (a : Nat) (n : Int) (ok : Bool) (w : World) (b g : Nat) (hw : Rd w b g f) (hl : Laid w) (hs : s.size < 4294967281)
    (hix : Hid (Lib.indexByte (L s) 61 = (a : Int))) (ha : 1 ≤ a) (has : a < s.size) (hnm : s.extract 0 a = nm) (hrs : s.extract (a + 1) s.size = rs) (hnm2 : nm.extract 0 (a - 1) = nm2) (hns : nm.size = a)
    (hn : Hid (numRet (numOf (L rs)) = .tuple #[.int .i64 n, .bool ok])) (h62 : (((byt (L nm) (a - 1) : Nat) : Int) == 62) = false) (h60 : (((byt (L nm) (a - 1) : Nat) : Int) == 60) = false) (p0 : Hid (¬ L nm = [112, 111, 119, 101, 114])) (p1 : Hid (¬ L nm = [116, 111, 117, 103, 104])) (p2 : Hid (¬ L nm = [118, 97, 108, 117, 101])) :
    Calls Tryz.prog 184 #[.pointer (some ⟨g, 0, none⟩), .string s] w fun e w' => e = .returned (.bool false) ∧ Rd w' b g f ∧ Fr g b w w' := by
  have hrl : rs.size < 4294967281 := by rw [← hrs, ByteArray.size_extract]; omega
  have hgn := get_l nm
  have hbw : b ≤ w.heap.size := by have := hw.lt; have := hw.2; omega
  have t0 : (nm.toList == [112, 111, 119, 101, 114]) = false := toList_lit_no p0.out
  have t1 : (nm.toList == [116, 111, 117, 103, 104]) = false := toList_lit_no p1.out
  have t2 : (nm.toList == [118, 97, 108, 117, 101]) = false := toList_lit_no p2.out
  go_enter Tryz.func184, Tryz.ntmps184
  go_wp2_with (first | (go_at_call 155; (with_reducible refine (indexEq _ _ _ hix.out).mono ?_); rintro e w0 ⟨rfl, rfl⟩) | (go_at_call 139; (with_reducible refine (number_ret rs n ok hn.out _ hl hrl).mono ?_); rintro e w1 ⟨rfl, hb1⟩; have hw1 := hw.below hb1; have hbb : Fr g b w w1 := Fr.of hb1 hbw; have hbs := Nat.le_trans hbw hb1.size))
  all_goals
    go_ret
    refine ⟨rfl, ?_, ?_⟩
    · first
        | exact hw1.alloc _
        | exact Rd.drew (hw1.alloc _)
    · first
        | exact hbb.alloc hbs _
        | exact (hbb.alloc hbs _).drew
end Go.Proofs.YtakgfbcmkhcdkaaGreatDoor
