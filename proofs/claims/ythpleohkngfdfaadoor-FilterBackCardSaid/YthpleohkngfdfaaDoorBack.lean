/- FilterBack: Parse inverts Text on the valid filters, Text inverts Parse wherever it succeeds. Conditions: Laid. -/
import Derived.Test.YthpleohkngfdfaaDoorApart
namespace Go.Proofs.YthpleohkngfdfaaDoor
set_option linter.all false
open Go.ChangeShapes Go.WideShapes Go.RowKit
theorem wpList_load_row_g {P : Program} {ops : Array Oper} {rest : List Oper} {o : Oper} {a : Act} {w : World} {Q : Exit → Act → World → Prop} (hw : Region.wanted o (yielded ops a.tmps) = true) (ty : TypeId) (x : Operand) (ho : o.op = .load ty x)
    (g : Nat) (hx : a.eval x = .pointer (some ⟨g, 0, none⟩)) (t : TypeId) (cs : Array Value) (fr : Nat × Nat) (d : TypeDesc) (hg : w.heap[g]? = some (.cells cs t fr))
    (hu : P.underlying ty = some d) (hd : (match d with | .struct _ | .array _ _ => true | _ => false) = true) (hi : (P.info? ty).map (·.size) = some cs.size)
    (h : wpList P ops Q rest (a.put o.dst (.agg cs)) w) : wpList P ops Q (o :: rest) a w := by
  unfold wpList
  rw [if_pos hw]
  exact .inl (wp_load_row ty x ho g hx t cs fr d hg hu hd hi h)
theorem eq_v (f g : Flt) (w : World) : (binOp .eql TF (.agg f.cells) (.agg g.cells)).run Tryd.prog w = .ok (.bool (fltEq f g)) w :=
  eq_flt f.zone f.who f.self f.types f.ntypes f.colors f.ncolors f.sub f.keys f.tap f.pk f.pn f.tk f.tn f.vk f.vn g.zone g.who g.self g.types g.ntypes g.colors g.ncolors g.sub g.keys g.tap g.pk g.pn g.tk g.tn g.vk g.vn w
theorem neq_v (f g : Flt) (w : World) : (binOp .neq TF (.agg f.cells) (.agg g.cells)).run Tryd.prog w = .ok (.bool (!fltEq f g)) w := by
  have h := eq_v f g w
  rw [run_eql_struct] at h
  rw [run_neq_struct]
  generalize (Op.equalIn 10000 TF (.agg f.cells) (.agg g.cells)).run Tryd.prog w = r at *
  cases r <;> simp_all [Result.andThen]
theorem fltEq_refl (f : Flt) : fltEq f f = true := (fltEq_iff f f).2 rfl
theorem fltIs_v (f : Flt) (R : Bool) (HR : Hid (fltIs f = R)) (w : World) (hl : Laid w) : Calls Tryd.prog 9 #[.agg f.cells] w fun e w' => e = .returned (.bool R) ∧ Below w.heap.size w w' :=
  fltIs_any f.zone f.who f.self f.types f.ntypes f.colors f.ncolors f.sub f.keys f.tap f.pk f.pn f.tk f.tn f.vk f.vn w hl R HR
theorem parse_some (s : ByteArray) (g : Flt) (h : Hid (parseS (L s) = some g)) (hs : s.size < 100000000) (w : World) (hl : Laid w) : Calls Tryd.prog 8 #[.string s] w fun e w' => e = .returned (.tuple #[.agg g.cells, .int .i64 0]) ∧ Below w.heap.size w w' :=
  (fltParse_any s w hl hs).mono fun e w' ⟨he, hb⟩ => ⟨by rw [he, h.out]; rfl, hb⟩
theorem parse_none (s : ByteArray) (h : Hid (parseS (L s) = none)) (hs : s.size < 100000000) (w : World) (hl : Laid w) : Calls Tryd.prog 8 #[.string s] w fun e w' => e = .returned (.tuple #[.agg zeroF.cells, .int .i64 3]) ∧ Below w.heap.size w w' :=
  (fltParse_any s w hl hs).mono fun e w' ⟨he, hb⟩ => ⟨by rw [he, h.out]; rfl, hb⟩
/-- A block is made and a row is stored in it. -/
def stored (w : World) (t : Nat) (o cs : Array Value) : World := (w.alloc (.cells o t)).setRow w.heap.size cs
theorem stored_new (w : World) (t : Nat) (o cs : Array Value) : (stored w t o cs).heap[w.heap.size]? = some (.cells cs t (0, 0)) := by
  unfold stored; exact setRow_heap _ _ o cs t (0, 0) (heap_alloc_new w _)
theorem stored_below (w : World) (t : Nat) (o cs : Array Value) : Below w.heap.size w (stored w t o cs) := by
  unfold stored; exact below_setRow ((Below.refl _ _).alloc (Nat.le_refl _) _) (Nat.le_refl _) cs
theorem stored_old {w : World} {t k : Nat} {o cs : Array Value} {p : Obj} (h : w.heap[k]? = some p) : (stored w t o cs).heap[k]? = some p := blk_below (stored_below w t o cs) h
theorem text_size {f : Flt} : (B (textOf f)).size < 100000000 := by
  rw [B_size]
  unfold textOf; split
  · rename_i h
    obtain ⟨_, hok⟩ := fltIs_fn h
    unfold fltText; split
    · decide
    · have hs : (toFN f).sub.length ≤ 32 := by
        rcases hok.sub with e | e
        · rw [e]; simp
        · exact isSub_len e
      have := fltJoin_len (toFN f) hs hok.pn hok.tn hok.vn
      omega
  · decide
set_option maxRecDepth 100000 in
theorem back_long (f : Flt) (s : ByteArray) (hs : 600 < s.size) (w : World) (hl : Laid w) :
    Calls Tryd.prog 3 #[.agg f.cells, .string s] w fun e w' => e = .returned (.bool true) ∧ Below w.heap.size w w' := by
  have hs' : (600 : Int) < s.size := by omega
  have hl1 := hl.alloc (.cells f.cells TF)
  go_enter Tryd.func3, Tryd.ntmps3
  go_wp2_with (go_at_call 6; (with_reducible refine (alive_any _ hl1).mono ?_); rintro e w1 ⟨rfl, hb1⟩)
  go_ret
  exact ⟨rfl, below_two ((Below.refl _ _).alloc (Nat.le_refl _) _) hb1⟩
set_option maxRecDepth 100000 in
set_option maxHeartbeats 2000000 in
theorem back_yes_none (f : Flt) (s : ByteArray) (hs : s.size ≤ 600) (HF : Hid (fltIs f = true)) (HS : Hid (parseS (L s) = none)) (w : World) (hl : Laid w) :
    Calls Tryd.prog 3 #[.agg f.cells, .string s] w fun e w' => e = .returned (.bool true) ∧ Below w.heap.size w w' := by
  have hs' : ¬ (600 : Int) < s.size := by omega
  obtain ⟨T, hT⟩ : ∃ T, B (textOf f) = T := ⟨_, rfl⟩
  have hTs : Hid (T.size < 100000000) := Lib.hid (by rw [← hT]; exact text_size)
  have t1 : ¬ T.toList = [] := by rw [← hT, B_toList]; exact text_ne HF.out
  have t0 : T.toList.isEmpty = false := by simpa using t1
  have HP : Hid (parseS (L T) = some f) := Lib.hid (by rw [← hT, L_B]; exact parse_text HF.out)
  have HT := Lib.hid hT
  have hne : ∀ wx : World, (binOp .neq TF (.agg f.cells) (.agg f.cells)).run Tryd.prog wx = .ok (.bool false) wx := fun wx => by rw [neq_v, fltEq_refl]; rfl
  clear hT
  have hs8 : Hid (s.size < 100000000) := Lib.hid (by omega)
  have hez : ∀ wx : World, (binOp .eql TF (.agg zeroF.cells) (.agg #[.int .i64 0, .int .i64 0, .int .i64 0, .int .i64 0, .int .i64 0, .int .i64 0, .int .i64 0, .string ⟨#[]⟩, .int .i64 0, .int .i64 0, .int .i64 0, .int .i64 0, .int .i64 0, .int .i64 0, .int .i64 0, .int .i64 0])).run Tryd.prog wx = .ok (.bool true) wx := fun wx => (eq_v zeroF zeroF wx).trans (by rw [fltEq_refl])
  have hl0 := hl.alloc (.cells f.cells TF)
  have r0 := Lib.hid (heap_alloc_new w (.cells f.cells TF))
  go_enter Tryd.func3, Tryd.ntmps3
  go_wp2_with (first
    | refine wpList_load_row_g rfl TF (.tmp 2) rfl w.heap.size rfl TF f.cells (0, 0) _ r5f.out Tryd.underlying25 rfl infoTF ?_
    | refine wpList_load_row_g rfl TF (.tmp 2) rfl w.heap.size rfl TF f.cells (0, 0) _ r4f.out Tryd.underlying25 rfl infoTF ?_
    | refine wpList_load_row rfl TF (.tmp 2) rfl w.heap.size rfl TF f.cells (0, 0) _ r3f.out Tryd.underlying25 rfl infoTF ?_
    | refine wpList_load_row rfl TF (.tmp 2) rfl w.heap.size rfl TF f.cells (0, 0) _ r0.out Tryd.underlying25 rfl infoTF ?_
    | refine wpList_load_row_g rfl TF (.tmp 6) rfl w2.heap.size rfl TF f.cells (0, 0) _ r5g.out Tryd.underlying25 rfl infoTF ?_
    | (refine wpList_store_row rfl TF (.tmp 6) (.tmp 19) rfl w2.heap.size f.cells rfl rfl TF zeroF.cells (heap_alloc_new w2 _) infoTF rfl (cells_one _) ?_; change wpList _ _ _ _ _ (stored w2 TF zeroF.cells f.cells); have r3f := Lib.hid (stored_old (t := TF) (o := zeroF.cells) (cs := f.cells) r2f.out); have r3g := Lib.hid (stored_new w2 TF zeroF.cells f.cells); have hl3 := hl2.below (stored_below w2 TF zeroF.cells f.cells); have k3 := k2.trans ((stored_below w2 TF zeroF.cells f.cells).mono k2.size); generalize stored w2 TF zeroF.cells f.cells = w3 at *)
    | refine wpList_load_row_g rfl TF (.tmp 8) rfl w6.heap.size rfl TF zeroF.cells (0, 0) _ r8h.out Tryd.underlying25 rfl infoTF ?_
    | (go_at_call 6; (with_reducible refine (alive_any _ hl7).mono ?_); rintro e w8 ⟨rfl, hb8⟩; have r8h := Lib.hid (blk_below hb8 r7h.out); have hl8 := hl7.below hb8; have k8 := below_two k7 hb8)
    | (refine wpList_store_row rfl TF (.tmp 8) (.tmp 42) rfl w6.heap.size zeroF.cells rfl rfl TF zeroF.cells (heap_alloc_new w6 _) infoTF rfl (cells_one _) ?_; change wpList _ _ _ _ _ (stored w6 TF zeroF.cells zeroF.cells); have r7h := Lib.hid (stored_new w6 TF zeroF.cells zeroF.cells); have hl7 := hl6.below (stored_below w6 TF zeroF.cells zeroF.cells); have k7 := k6.trans ((stored_below w6 TF zeroF.cells zeroF.cells).mono k6.size); generalize stored w6 TF zeroF.cells zeroF.cells = w7 at *)
    | (go_at_call 8; (with_reducible refine (parse_none s HS hs8.out _ hl5).mono ?_); rintro e w6 ⟨rfl, hb6⟩; have hl6 := hl5.below hb6; have k6 := below_two k5 hb6)
    | (go_at_call 7; (with_reducible refine (text_ret f T HT _ hl0).mono ?_); rintro e w1 ⟨rfl, hb1⟩; have r1f := Lib.hid (blk_new hb1); have hl1 := hl0.below hb1; have k1 := below_two ((Below.refl w.heap.size w).alloc (Nat.le_refl _) (.cells f.cells TF)) hb1)
    | (go_at_call 8; (with_reducible refine (parse_some T f HP hTs.out _ hl1).mono ?_); rintro e w2 ⟨rfl, hb2⟩; have r2f := Lib.hid (blk_below hb2 r1f.out); have hl2 := hl1.below hb2; have k2 := below_two k1 hb2)
    | (go_at_call 9; (with_reducible refine (fltIs_v f true HF _ hl4).mono ?_); rintro e w5 ⟨rfl, hb5⟩; have r5f := Lib.hid (blk_below hb5 r4f.out); have r5g := Lib.hid (blk_below hb5 r4g.out); have hl5 := hl4.below hb5; have k5 := below_two k4 hb5)
    | (go_at_call 9; (with_reducible refine (fltIs_v f true HF _ hl3).mono ?_); rintro e w4 ⟨rfl, hb4⟩; have r4f := Lib.hid (blk_below hb4 r3f.out); have r4g := Lib.hid (blk_below hb4 r3g.out); have hl4 := hl3.below hb4; have k4 := below_two k3 hb4))
  go_ret
  exact ⟨ret_bool (by simp), k8⟩
set_option maxRecDepth 100000 in
set_option maxHeartbeats 2000000 in
theorem back_yes_some (f : Flt) (s : ByteArray) (hs : s.size ≤ 600) (HF : Hid (fltIs f = true)) (h : Flt) (HS : Hid (parseS (L s) = some h)) (HI : Hid (fltIs h = true)) (HX : Hid (B (textOf h) = s)) (w : World) (hl : Laid w) :
    Calls Tryd.prog 3 #[.agg f.cells, .string s] w fun e w' => e = .returned (.bool true) ∧ Below w.heap.size w w' := by
  have hs' : ¬ (600 : Int) < s.size := by omega
  obtain ⟨T, hT⟩ : ∃ T, B (textOf f) = T := ⟨_, rfl⟩
  have hTs : Hid (T.size < 100000000) := Lib.hid (by rw [← hT]; exact text_size)
  have t1 : ¬ T.toList = [] := by rw [← hT, B_toList]; exact text_ne HF.out
  have t0 : T.toList.isEmpty = false := by simpa using t1
  have HP : Hid (parseS (L T) = some f) := Lib.hid (by rw [← hT, L_B]; exact parse_text HF.out)
  have HT := Lib.hid hT
  have hne : ∀ wx : World, (binOp .neq TF (.agg f.cells) (.agg f.cells)).run Tryd.prog wx = .ok (.bool false) wx := fun wx => by rw [neq_v, fltEq_refl]; rfl
  clear hT
  have hs8 : Hid (s.size < 100000000) := Lib.hid (by omega)
  have hl0 := hl.alloc (.cells f.cells TF)
  have r0 := Lib.hid (heap_alloc_new w (.cells f.cells TF))
  go_enter Tryd.func3, Tryd.ntmps3
  go_wp2_with (first
    | refine wpList_load_row_g rfl TF (.tmp 2) rfl w.heap.size rfl TF f.cells (0, 0) _ r5f.out Tryd.underlying25 rfl infoTF ?_
    | refine wpList_load_row_g rfl TF (.tmp 2) rfl w.heap.size rfl TF f.cells (0, 0) _ r4f.out Tryd.underlying25 rfl infoTF ?_
    | refine wpList_load_row rfl TF (.tmp 2) rfl w.heap.size rfl TF f.cells (0, 0) _ r3f.out Tryd.underlying25 rfl infoTF ?_
    | refine wpList_load_row rfl TF (.tmp 2) rfl w.heap.size rfl TF f.cells (0, 0) _ r0.out Tryd.underlying25 rfl infoTF ?_
    | refine wpList_load_row_g rfl TF (.tmp 6) rfl w2.heap.size rfl TF f.cells (0, 0) _ r5g.out Tryd.underlying25 rfl infoTF ?_
    | (refine wpList_store_row rfl TF (.tmp 6) (.tmp 19) rfl w2.heap.size f.cells rfl rfl TF zeroF.cells (heap_alloc_new w2 _) infoTF rfl (cells_one _) ?_; change wpList _ _ _ _ _ (stored w2 TF zeroF.cells f.cells); have r3f := Lib.hid (stored_old (t := TF) (o := zeroF.cells) (cs := f.cells) r2f.out); have r3g := Lib.hid (stored_new w2 TF zeroF.cells f.cells); have hl3 := hl2.below (stored_below w2 TF zeroF.cells f.cells); have k3 := k2.trans ((stored_below w2 TF zeroF.cells f.cells).mono k2.size); generalize stored w2 TF zeroF.cells f.cells = w3 at *)
    | (go_at_call 7; (with_reducible refine (text_ret h s HX _ hl9).mono ?_); rintro e w10 ⟨rfl, hb10⟩)
    | (go_at_call 9; (with_reducible refine (fltIs_v h true HI _ hl8).mono ?_); rintro e w9 ⟨rfl, hb9⟩; have r9h := Lib.hid (blk_below hb9 r8h.out); have hl9 := hl8.below hb9; have k9 := below_two k8 hb9)
    | refine wpList_load_row_g rfl TF (.tmp 8) rfl w6.heap.size rfl TF h.cells (0, 0) _ r9h.out Tryd.underlying25 rfl infoTF ?_
    | refine wpList_load_row_g rfl TF (.tmp 8) rfl w6.heap.size rfl TF h.cells (0, 0) _ r8h.out Tryd.underlying25 rfl infoTF ?_
    | (go_at_call 6; (with_reducible refine (alive_any _ hl7).mono ?_); rintro e w8 ⟨rfl, hb8⟩; have r8h := Lib.hid (blk_below hb8 r7h.out); have hl8 := hl7.below hb8; have k8 := below_two k7 hb8)
    | (refine wpList_store_row rfl TF (.tmp 8) (.tmp 42) rfl w6.heap.size h.cells rfl rfl TF zeroF.cells (heap_alloc_new w6 _) infoTF rfl (cells_one _) ?_; change wpList _ _ _ _ _ (stored w6 TF zeroF.cells h.cells); have r7h := Lib.hid (stored_new w6 TF zeroF.cells h.cells); have hl7 := hl6.below (stored_below w6 TF zeroF.cells h.cells); have k7 := k6.trans ((stored_below w6 TF zeroF.cells h.cells).mono k6.size); generalize stored w6 TF zeroF.cells h.cells = w7 at *)
    | (go_at_call 8; (with_reducible refine (parse_some s h HS hs8.out _ hl5).mono ?_); rintro e w6 ⟨rfl, hb6⟩; have hl6 := hl5.below hb6; have k6 := below_two k5 hb6)
    | (go_at_call 7; (with_reducible refine (text_ret f T HT _ hl0).mono ?_); rintro e w1 ⟨rfl, hb1⟩; have r1f := Lib.hid (blk_new hb1); have hl1 := hl0.below hb1; have k1 := below_two ((Below.refl w.heap.size w).alloc (Nat.le_refl _) (.cells f.cells TF)) hb1)
    | (go_at_call 8; (with_reducible refine (parse_some T f HP hTs.out _ hl1).mono ?_); rintro e w2 ⟨rfl, hb2⟩; have r2f := Lib.hid (blk_below hb2 r1f.out); have hl2 := hl1.below hb2; have k2 := below_two k1 hb2)
    | (go_at_call 9; (with_reducible refine (fltIs_v f true HF _ hl4).mono ?_); rintro e w5 ⟨rfl, hb5⟩; have r5f := Lib.hid (blk_below hb5 r4f.out); have r5g := Lib.hid (blk_below hb5 r4g.out); have hl5 := hl4.below hb5; have k5 := below_two k4 hb5)
    | (go_at_call 9; (with_reducible refine (fltIs_v f true HF _ hl3).mono ?_); rintro e w4 ⟨rfl, hb4⟩; have r4f := Lib.hid (blk_below hb4 r3f.out); have r4g := Lib.hid (blk_below hb4 r3g.out); have hl4 := hl3.below hb4; have k4 := below_two k3 hb4))
  go_ret
  exact ⟨ret_bool (by simp), below_two k9 hb10⟩
set_option maxRecDepth 100000 in
set_option maxHeartbeats 2000000 in
theorem back_no_none (f : Flt) (s : ByteArray) (hs : s.size ≤ 600) (HF : Hid (fltIs f = false)) (HS : Hid (parseS (L s) = none)) (w : World) (hl : Laid w) :
    Calls Tryd.prog 3 #[.agg f.cells, .string s] w fun e w' => e = .returned (.bool true) ∧ Below w.heap.size w w' := by
  have hs' : ¬ (600 : Int) < s.size := by omega
  have HT : Hid (B (textOf f) = ⟨#[]⟩) := Lib.hid (by rw [text_no HF.out]; rfl)
  have HP : Hid (parseS (L ⟨#[]⟩) = none) := Lib.hid parseS_empty
  have hs8 : Hid (s.size < 100000000) := Lib.hid (by omega)
  have hez : ∀ wx : World, (binOp .eql TF (.agg zeroF.cells) (.agg #[.int .i64 0, .int .i64 0, .int .i64 0, .int .i64 0, .int .i64 0, .int .i64 0, .int .i64 0, .string ⟨#[]⟩, .int .i64 0, .int .i64 0, .int .i64 0, .int .i64 0, .int .i64 0, .int .i64 0, .int .i64 0, .int .i64 0])).run Tryd.prog wx = .ok (.bool true) wx := fun wx => (eq_v zeroF zeroF wx).trans (by rw [fltEq_refl])
  have hl0 := hl.alloc (.cells f.cells TF)
  have r0 := Lib.hid (heap_alloc_new w (.cells f.cells TF))
  go_enter Tryd.func3, Tryd.ntmps3
  go_wp2_with (first
    | refine wpList_load_row_g rfl TF (.tmp 2) rfl w.heap.size rfl TF f.cells (0, 0) _ r4f.out Tryd.underlying25 rfl infoTF ?_
    | refine wpList_load_row rfl TF (.tmp 2) rfl w.heap.size rfl TF f.cells (0, 0) _ r3f.out Tryd.underlying25 rfl infoTF ?_
    | refine wpList_load_row rfl TF (.tmp 2) rfl w.heap.size rfl TF f.cells (0, 0) _ r0.out Tryd.underlying25 rfl infoTF ?_
    | (refine wpList_store_row rfl TF (.tmp 6) (.tmp 19) rfl w2.heap.size zeroF.cells rfl rfl TF zeroF.cells (heap_alloc_new w2 _) infoTF rfl (cells_one _) ?_; change wpList _ _ _ _ _ (stored w2 TF zeroF.cells zeroF.cells); have r3f := Lib.hid (stored_old (t := TF) (o := zeroF.cells) (cs := zeroF.cells) r2f.out); have r3g := Lib.hid (stored_new w2 TF zeroF.cells zeroF.cells); have hl3 := hl2.below (stored_below w2 TF zeroF.cells zeroF.cells); have k3 := k2.trans ((stored_below w2 TF zeroF.cells zeroF.cells).mono k2.size); generalize stored w2 TF zeroF.cells zeroF.cells = w3 at *)
    | refine wpList_load_row_g rfl TF (.tmp 8) rfl w6.heap.size rfl TF zeroF.cells (0, 0) _ r8h.out Tryd.underlying25 rfl infoTF ?_
    | (go_at_call 6; (with_reducible refine (alive_any _ hl7).mono ?_); rintro e w8 ⟨rfl, hb8⟩; have r8h := Lib.hid (blk_below hb8 r7h.out); have hl8 := hl7.below hb8; have k8 := below_two k7 hb8)
    | (refine wpList_store_row rfl TF (.tmp 8) (.tmp 42) rfl w6.heap.size zeroF.cells rfl rfl TF zeroF.cells (heap_alloc_new w6 _) infoTF rfl (cells_one _) ?_; change wpList _ _ _ _ _ (stored w6 TF zeroF.cells zeroF.cells); have r7h := Lib.hid (stored_new w6 TF zeroF.cells zeroF.cells); have hl7 := hl6.below (stored_below w6 TF zeroF.cells zeroF.cells); have k7 := k6.trans ((stored_below w6 TF zeroF.cells zeroF.cells).mono k6.size); generalize stored w6 TF zeroF.cells zeroF.cells = w7 at *)
    | (go_at_call 8; (with_reducible refine (parse_none s HS hs8.out _ hl5).mono ?_); rintro e w6 ⟨rfl, hb6⟩; have hl6 := hl5.below hb6; have k6 := below_two k5 hb6)
    | (go_at_call 7; (with_reducible refine (text_ret f ⟨#[]⟩ HT _ hl0).mono ?_); rintro e w1 ⟨rfl, hb1⟩; have r1f := Lib.hid (blk_new hb1); have hl1 := hl0.below hb1; have k1 := below_two ((Below.refl w.heap.size w).alloc (Nat.le_refl _) (.cells f.cells TF)) hb1)
    | (go_at_call 8; (with_reducible refine (parse_none ⟨#[]⟩ HP (by decide) _ hl1).mono ?_); rintro e w2 ⟨rfl, hb2⟩; have r2f := Lib.hid (blk_below hb2 r1f.out); have hl2 := hl1.below hb2; have k2 := below_two k1 hb2)
    | (go_at_call 9; (with_reducible refine (fltIs_v f false HF _ hl4).mono ?_); rintro e w5 ⟨rfl, hb5⟩; have r5f := Lib.hid (blk_below hb5 r4f.out); have r5g := Lib.hid (blk_below hb5 r4g.out); have hl5 := hl4.below hb5; have k5 := below_two k4 hb5)
    | (go_at_call 9; (with_reducible refine (fltIs_v f false HF _ hl3).mono ?_); rintro e w4 ⟨rfl, hb4⟩; have r4f := Lib.hid (blk_below hb4 r3f.out); have r4g := Lib.hid (blk_below hb4 r3g.out); have hl4 := hl3.below hb4; have k4 := below_two k3 hb4))
  go_ret
  exact ⟨ret_bool (by simp), k8⟩
set_option maxRecDepth 100000 in
set_option maxHeartbeats 2000000 in
theorem back_no_some (f : Flt) (s : ByteArray) (hs : s.size ≤ 600) (HF : Hid (fltIs f = false)) (h : Flt) (HS : Hid (parseS (L s) = some h)) (HI : Hid (fltIs h = true)) (HX : Hid (B (textOf h) = s)) (w : World) (hl : Laid w) :
    Calls Tryd.prog 3 #[.agg f.cells, .string s] w fun e w' => e = .returned (.bool true) ∧ Below w.heap.size w w' := by
  have hs' : ¬ (600 : Int) < s.size := by omega
  have HT : Hid (B (textOf f) = ⟨#[]⟩) := Lib.hid (by rw [text_no HF.out]; rfl)
  have HP : Hid (parseS (L ⟨#[]⟩) = none) := Lib.hid parseS_empty
  have hs8 : Hid (s.size < 100000000) := Lib.hid (by omega)
  have hl0 := hl.alloc (.cells f.cells TF)
  have r0 := Lib.hid (heap_alloc_new w (.cells f.cells TF))
  go_enter Tryd.func3, Tryd.ntmps3
  go_wp2_with (first
    | refine wpList_load_row_g rfl TF (.tmp 2) rfl w.heap.size rfl TF f.cells (0, 0) _ r4f.out Tryd.underlying25 rfl infoTF ?_
    | refine wpList_load_row rfl TF (.tmp 2) rfl w.heap.size rfl TF f.cells (0, 0) _ r3f.out Tryd.underlying25 rfl infoTF ?_
    | refine wpList_load_row rfl TF (.tmp 2) rfl w.heap.size rfl TF f.cells (0, 0) _ r0.out Tryd.underlying25 rfl infoTF ?_
    | (refine wpList_store_row rfl TF (.tmp 6) (.tmp 19) rfl w2.heap.size zeroF.cells rfl rfl TF zeroF.cells (heap_alloc_new w2 _) infoTF rfl (cells_one _) ?_; change wpList _ _ _ _ _ (stored w2 TF zeroF.cells zeroF.cells); have r3f := Lib.hid (stored_old (t := TF) (o := zeroF.cells) (cs := zeroF.cells) r2f.out); have r3g := Lib.hid (stored_new w2 TF zeroF.cells zeroF.cells); have hl3 := hl2.below (stored_below w2 TF zeroF.cells zeroF.cells); have k3 := k2.trans ((stored_below w2 TF zeroF.cells zeroF.cells).mono k2.size); generalize stored w2 TF zeroF.cells zeroF.cells = w3 at *)
    | (go_at_call 7; (with_reducible refine (text_ret h s HX _ hl9).mono ?_); rintro e w10 ⟨rfl, hb10⟩)
    | (go_at_call 9; (with_reducible refine (fltIs_v h true HI _ hl8).mono ?_); rintro e w9 ⟨rfl, hb9⟩; have r9h := Lib.hid (blk_below hb9 r8h.out); have hl9 := hl8.below hb9; have k9 := below_two k8 hb9)
    | refine wpList_load_row_g rfl TF (.tmp 8) rfl w6.heap.size rfl TF h.cells (0, 0) _ r9h.out Tryd.underlying25 rfl infoTF ?_
    | refine wpList_load_row_g rfl TF (.tmp 8) rfl w6.heap.size rfl TF h.cells (0, 0) _ r8h.out Tryd.underlying25 rfl infoTF ?_
    | (go_at_call 6; (with_reducible refine (alive_any _ hl7).mono ?_); rintro e w8 ⟨rfl, hb8⟩; have r8h := Lib.hid (blk_below hb8 r7h.out); have hl8 := hl7.below hb8; have k8 := below_two k7 hb8)
    | (refine wpList_store_row rfl TF (.tmp 8) (.tmp 42) rfl w6.heap.size h.cells rfl rfl TF zeroF.cells (heap_alloc_new w6 _) infoTF rfl (cells_one _) ?_; change wpList _ _ _ _ _ (stored w6 TF zeroF.cells h.cells); have r7h := Lib.hid (stored_new w6 TF zeroF.cells h.cells); have hl7 := hl6.below (stored_below w6 TF zeroF.cells h.cells); have k7 := k6.trans ((stored_below w6 TF zeroF.cells h.cells).mono k6.size); generalize stored w6 TF zeroF.cells h.cells = w7 at *)
    | (go_at_call 8; (with_reducible refine (parse_some s h HS hs8.out _ hl5).mono ?_); rintro e w6 ⟨rfl, hb6⟩; have hl6 := hl5.below hb6; have k6 := below_two k5 hb6)
    | (go_at_call 7; (with_reducible refine (text_ret f ⟨#[]⟩ HT _ hl0).mono ?_); rintro e w1 ⟨rfl, hb1⟩; have r1f := Lib.hid (blk_new hb1); have hl1 := hl0.below hb1; have k1 := below_two ((Below.refl w.heap.size w).alloc (Nat.le_refl _) (.cells f.cells TF)) hb1)
    | (go_at_call 8; (with_reducible refine (parse_none ⟨#[]⟩ HP (by decide) _ hl1).mono ?_); rintro e w2 ⟨rfl, hb2⟩; have r2f := Lib.hid (blk_below hb2 r1f.out); have hl2 := hl1.below hb2; have k2 := below_two k1 hb2)
    | (go_at_call 9; (with_reducible refine (fltIs_v f false HF _ hl4).mono ?_); rintro e w5 ⟨rfl, hb5⟩; have r5f := Lib.hid (blk_below hb5 r4f.out); have r5g := Lib.hid (blk_below hb5 r4g.out); have hl5 := hl4.below hb5; have k5 := below_two k4 hb5)
    | (go_at_call 9; (with_reducible refine (fltIs_v f false HF _ hl3).mono ?_); rintro e w4 ⟨rfl, hb4⟩; have r4f := Lib.hid (blk_below hb4 r3f.out); have r4g := Lib.hid (blk_below hb4 r3g.out); have hl4 := hl3.below hb4; have k4 := below_two k3 hb4))
  go_ret
  exact ⟨ret_bool (by simp), below_two k9 hb10⟩
theorem back_any (f : Flt) (s : ByteArray) (w : World) (hl : Laid w) :
    Calls Tryd.prog 3 #[.agg f.cells, .string s] w fun e w' => e = .returned (.bool true) ∧ Below w.heap.size w w' := by
  by_cases hs : 600 < s.size
  · exact back_long f s hs w hl
  · cases hf : fltIs f <;> cases hp : parseS (L s)
    · exact back_no_none f s (by omega) (Lib.hid hf) (Lib.hid hp) w hl
    · rename_i h
      have hb := parse_back hp
      exact back_no_some f s (by omega) (Lib.hid hf) h (Lib.hid hp) (Lib.hid hb.1) (Lib.hid (by rw [hb.2, B_L])) w hl
    · exact back_yes_none f s (by omega) (Lib.hid hf) (Lib.hid hp) w hl
    · rename_i h
      have hb := parse_back hp
      exact back_yes_some f s (by omega) (Lib.hid hf) h (Lib.hid hp) (Lib.hid hb.1) (Lib.hid (by rw [hb.2, B_L])) w hl
end Go.Proofs.YthpleohkngfdfaaDoor
