/- Walks: package ref: read of a text that begins with each( and of every other text. Conditions: Laid; the text is shorter than 100 million bytes. -/
import Derived.Test.YtbiakbogpbncfaaGreatDoorSRead
namespace Go.Proofs.YtbiakbogpbncfaaGreatDoor
set_option linter.all false
open Go.ChangeShapes Go.WideShapes Go.RowKit
/-- A build whose value is known. -/
theorem wpList_build2 {P : Program} {ops : Array Oper} {rest : List Oper} {o : Oper} {a : Act} {w : World} {Q : Exit → Act → World → Prop} (hgd : o.guard = none) (ty : TypeId) (i j : Nat) (x y : Operand) (ho : o.op = .build ty #[(i, x), (j, y)])
    (p q v : Value) (hx : a.eval x = p) (hy : a.eval y = q) (hv : (Instr.build ty #[(i, p), (j, q)]).run P w = .ok v w) (h : wpList P ops Q rest (a.put o.dst v) w) : wpList P ops Q (o :: rest) a w :=
  wpList_plain hgd fun _ hK => by
    unfold Oper.wp execOp
    simp only [ho, List.map_toArray, List.map_cons, List.map_nil, hx, hy, Sem.run_bind, hv, Sem.run_pure, Result.andThen_ok]
    exact hK _ _ h
theorem build_each (f : Flt) (w : World) : (Instr.build TRf #[(0, .int .i64 4), (2, .agg f.cells)]).run Tryz.prog w = .ok (.agg (Rf.cells ⟨4, 0, f⟩)) w := by kernel_rfl
set_option maxRecDepth 100000 in
set_option maxHeartbeats 2000000 in
theorem read_eachW (s : ByteArray) (hs : s.size < 100000000) (w : World) (hl : Laid w) (n0 : ¬ L s = wd refT 1) (n1 : ¬ L s = wd refT 2) (n2 : ¬ L s = wd refT 5) (n3 : ¬ L s = wd refT 6) (n4 : ¬ L s = wd refT 7) (HO1 : Hid (readNum (L s) targetW = none)) (HO2 : Hid (readNum (L s) ownerW = none)) (r i : Str) (G : Flt) (H1 : Hid (Lib.trimPrefix (L s) eachW = r ∧ Lib.hasPrefix (L s) eachW = true)) (H2 : Hid (Lib.trimSuffix (L (B r)) [41] = i ∧ Lib.hasSuffix (L (B r)) [41] = true)) (H3 : Hid (fltRet (parseS (L (B i))) = .tuple #[.agg G.cells, .int .i64 0])) (hrl : Hid ((B r).size < 1000000000)) (hil : Hid ((B i).size < 100000000)) :
    Calls Tryz.prog 23 #[.string s] w fun e w' => e = .returned (.agg (Rf.cells ⟨4, 0, G⟩)) ∧ Below w.heap.size w w' := by
  have e1 : L ⟨#[101, 97, 99, 104, 40]⟩ = eachW := rfl
  have e2 : L ⟨#[41]⟩ = [41] := rfl
  have t0 : (s.toList == [121, 111, 117]) = false := toList_lit_no n0
  have t1 : (s.toList == [115, 101, 108, 102]) = false := toList_lit_no n1
  have t2 : (s.toList == [111, 112, 112, 111, 110, 101, 110, 116, 115]) = false := toList_lit_no n2
  have t3 : (s.toList == [112, 108, 97, 121, 101, 114, 115]) = false := toList_lit_no n3
  have t4 : (s.toList == [105, 116]) = false := toList_lit_no n4
  have r0 := Lib.hid (heap_alloc_new w (.cells zeroR.cells TRf))
  have hl1 := hl.alloc (.cells zeroR.cells TRf)
  have k0 : Hid (Below w.heap.size w (w.alloc (.cells zeroR.cells TRf))) := Lib.hid ((Below.refl _ _).alloc (Nat.le_refl _) _)
  clear n0 n1 n2 n3 n4
  go_enter Tryz.func23, Tryz.ntmps23
  go_wp2_with fail
  refine (numbered_any s ⟨#[116, 97, 114, 103, 101, 116]⟩ targetW rfl 3 hs _ hl1).mono ?_
  rintro e w1 ⟨n, b, rfl, hb1, hy, hn⟩
  have r1 := Lib.hid (blk_new hb1)
  have k1 := Lib.hid (below_two k0.out hb1)
  have hl1b := hl1.below hb1
  obtain rfl : b = false := by
    cases b with
    | false => rfl
    | true => have := hy rfl; rw [HO1.out] at this; cases this
  clear hy hn hb1
  dsimp only
  go_wp2_with (refine wpList_store_row rfl TRf (.tmp 3) (.tmp 32) rfl w1.heap.size (Rf.cells ⟨3, n, zeroF⟩) rfl rfl TRf zeroR.cells (heap_alloc_new w1 _) infoTRf rfl (rcells_one _) ?_; change wpList _ _ _ _ _ (stored w1 TRf zeroR.cells (Rf.cells ⟨3, n, zeroF⟩)); have r2n := Lib.hid (stored_new w1 TRf zeroR.cells (Rf.cells ⟨3, n, zeroF⟩)); have r2 := Lib.hid (stored_old (t := TRf) (o := zeroR.cells) (cs := Rf.cells ⟨3, n, zeroF⟩) r1.out); have k2 := Lib.hid (k1.out.trans ((stored_below w1 TRf zeroR.cells (Rf.cells ⟨3, n, zeroF⟩)).mono k1.out.size)); have hl2 := hl1b.below (stored_below w1 TRf zeroR.cells (Rf.cells ⟨3, n, zeroF⟩)); generalize stored w1 TRf zeroR.cells (Rf.cells ⟨3, n, zeroF⟩) = w2 at *)
  refine (numbered_any s ⟨#[111, 119, 110, 101, 114]⟩ ownerW rfl 8 hs _ hl2).mono ?_
  rintro e w3 ⟨m2, b, rfl, hb3, hy, hn⟩
  have r3 := Lib.hid (blk_below2 hb3 r2.out)
  have k3 := Lib.hid (below_two k2.out hb3)
  have hl3 := hl2.below hb3
  obtain rfl : b = false := by
    cases b with
    | false => rfl
    | true => have := hy rfl; rw [HO2.out] at this; cases this
  clear hy hn hb3
  dsimp only
  go_wp2_with (first | (refine wpList_store_row rfl TRf (.tmp 5) (.tmp 39) rfl w3.heap.size (Rf.cells ⟨8, m2, zeroF⟩) rfl rfl TRf zeroR.cells (heap_alloc_new w3 _) infoTRf rfl (rcells_one _) ?_; change wpList _ _ _ _ _ (stored w3 TRf zeroR.cells (Rf.cells ⟨8, m2, zeroF⟩)); have r4n := Lib.hid (stored_new w3 TRf zeroR.cells (Rf.cells ⟨8, m2, zeroF⟩)); have r4 := Lib.hid (stored_old (t := TRf) (o := zeroR.cells) (cs := Rf.cells ⟨8, m2, zeroF⟩) r3.out); have k4 := Lib.hid (k3.out.trans ((stored_below w3 TRf zeroR.cells (Rf.cells ⟨8, m2, zeroF⟩)).mono k3.out.size)); have hl4 := hl3.below (stored_below w3 TRf zeroR.cells (Rf.cells ⟨8, m2, zeroF⟩)); generalize stored w3 TRf zeroR.cells (Rf.cells ⟨8, m2, zeroF⟩) = w4 at *) | (go_at_call 53; (with_reducible refine (cutPre_is s ⟨#[101, 97, 99, 104, 40]⟩ _ eachW e1 r _ H1).mono ?_); rintro e w0 ⟨rfl, rfl⟩) | (go_at_call 54; (with_reducible refine (cutSuf_is (B r) ⟨#[41]⟩ _ hrl.out [41] e2 i _ H2).mono ?_); rintro e w0 ⟨rfl, rfl⟩) | (go_at_call 55; (with_reducible refine (fltParse_is (B i) hil.out _ hl4 G _ H3).mono ?_); rintro e w5 ⟨rfl, hb5⟩; have r5 := Lib.hid (blk_below2 hb5 r4.out); have k5 := Lib.hid (below_two k4.out hb5)) | (refine wpList_store_row rfl TF (.tmp 11) (.tmp 56) rfl w5.heap.size G.cells rfl rfl TF zeroF.cells (heap_alloc_new w5 _) infoTF rfl (cells_one _) ?_; change wpList _ _ _ _ _ (stored w5 TF zeroF.cells G.cells); have r6n := Lib.hid (stored_new w5 TF zeroF.cells G.cells); have r6 := Lib.hid (stored_old (t := TF) (o := zeroF.cells) (cs := G.cells) r5.out); have k6 := Lib.hid (k5.out.trans ((stored_below w5 TF zeroF.cells G.cells).mono k5.out.size)); generalize stored w5 TF zeroF.cells G.cells = w6 at *) | refine wpList_load_row rfl TF (.tmp 11) rfl w5.heap.size rfl TF G.cells (0, 0) _ r6n.out Tryz.underlying25 rfl infoTF ?_ | (refine wpList_store_row rfl TRf (.tmp 2) (.tmp 67) rfl w.heap.size (Rf.cells ⟨4, 0, G⟩) rfl rfl TRf zeroR.cells r6.out infoTRf rfl (rcells_one _) ?_) | refine wpList_build2 rfl TRf 0 2 (.const (.int .i64 4)) (.tmp 66) rfl (.int .i64 4) (.agg G.cells) (.agg (Rf.cells ⟨4, 0, G⟩)) rfl rfl (build_each G _) ?_)
  all_goals exact bodyPost_ret (results_cell_row rfl _ _ w.heap.size TRf (Rf.cells ⟨4, 0, G⟩) (0, 0) _ rfl (row_set r6.out) Tryz.underlying27 rfl infoTRf) rfl ⟨rfl, below_setRow k6.out (Nat.le_refl _) _⟩
set_option maxRecDepth 100000 in
set_option maxHeartbeats 2000000 in
theorem read_zero1 (s : ByteArray) (hs : s.size < 100000000) (w : World) (hl : Laid w) (n0 : ¬ L s = wd refT 1) (n1 : ¬ L s = wd refT 2) (n2 : ¬ L s = wd refT 5) (n3 : ¬ L s = wd refT 6) (n4 : ¬ L s = wd refT 7) (HO1 : Hid (readNum (L s) targetW = none)) (HO2 : Hid (readNum (L s) ownerW = none)) (r i : Str) (G : Flt) (en : Bool) (c : Int) (H1 : Hid (Lib.trimPrefix (L s) eachW = r ∧ Lib.hasPrefix (L s) eachW = false)) (H2 : Hid (Lib.trimSuffix (L (B r)) [41] = i ∧ Lib.hasSuffix (L (B r)) [41] = en)) (H3 : Hid (fltRet (parseS (L (B i))) = .tuple #[.agg G.cells, .int .i64 c])) (hrl : Hid ((B r).size < 1000000000)) (hil : Hid ((B i).size < 100000000)) :
    Calls Tryz.prog 23 #[.string s] w fun e w' => e = .returned (.agg (Rf.cells zeroR)) ∧ Below w.heap.size w w' := by
  have e1 : L ⟨#[101, 97, 99, 104, 40]⟩ = eachW := rfl
  have e2 : L ⟨#[41]⟩ = [41] := rfl
  have t0 : (s.toList == [121, 111, 117]) = false := toList_lit_no n0
  have t1 : (s.toList == [115, 101, 108, 102]) = false := toList_lit_no n1
  have t2 : (s.toList == [111, 112, 112, 111, 110, 101, 110, 116, 115]) = false := toList_lit_no n2
  have t3 : (s.toList == [112, 108, 97, 121, 101, 114, 115]) = false := toList_lit_no n3
  have t4 : (s.toList == [105, 116]) = false := toList_lit_no n4
  have r0 := Lib.hid (heap_alloc_new w (.cells zeroR.cells TRf))
  have hl1 := hl.alloc (.cells zeroR.cells TRf)
  have k0 : Hid (Below w.heap.size w (w.alloc (.cells zeroR.cells TRf))) := Lib.hid ((Below.refl _ _).alloc (Nat.le_refl _) _)
  clear n0 n1 n2 n3 n4
  go_enter Tryz.func23, Tryz.ntmps23
  go_wp2_with fail
  refine (numbered_any s ⟨#[116, 97, 114, 103, 101, 116]⟩ targetW rfl 3 hs _ hl1).mono ?_
  rintro e w1 ⟨n, b, rfl, hb1, hy, hn⟩
  have r1 := Lib.hid (blk_new hb1)
  have k1 := Lib.hid (below_two k0.out hb1)
  have hl1b := hl1.below hb1
  obtain rfl : b = false := by
    cases b with
    | false => rfl
    | true => have := hy rfl; rw [HO1.out] at this; cases this
  clear hy hn hb1
  dsimp only
  go_wp2_with (refine wpList_store_row rfl TRf (.tmp 3) (.tmp 32) rfl w1.heap.size (Rf.cells ⟨3, n, zeroF⟩) rfl rfl TRf zeroR.cells (heap_alloc_new w1 _) infoTRf rfl (rcells_one _) ?_; change wpList _ _ _ _ _ (stored w1 TRf zeroR.cells (Rf.cells ⟨3, n, zeroF⟩)); have r2n := Lib.hid (stored_new w1 TRf zeroR.cells (Rf.cells ⟨3, n, zeroF⟩)); have r2 := Lib.hid (stored_old (t := TRf) (o := zeroR.cells) (cs := Rf.cells ⟨3, n, zeroF⟩) r1.out); have k2 := Lib.hid (k1.out.trans ((stored_below w1 TRf zeroR.cells (Rf.cells ⟨3, n, zeroF⟩)).mono k1.out.size)); have hl2 := hl1b.below (stored_below w1 TRf zeroR.cells (Rf.cells ⟨3, n, zeroF⟩)); generalize stored w1 TRf zeroR.cells (Rf.cells ⟨3, n, zeroF⟩) = w2 at *)
  refine (numbered_any s ⟨#[111, 119, 110, 101, 114]⟩ ownerW rfl 8 hs _ hl2).mono ?_
  rintro e w3 ⟨m2, b, rfl, hb3, hy, hn⟩
  have r3 := Lib.hid (blk_below2 hb3 r2.out)
  have k3 := Lib.hid (below_two k2.out hb3)
  have hl3 := hl2.below hb3
  obtain rfl : b = false := by
    cases b with
    | false => rfl
    | true => have := hy rfl; rw [HO2.out] at this; cases this
  clear hy hn hb3
  dsimp only
  go_wp2_with (first | (refine wpList_store_row rfl TRf (.tmp 5) (.tmp 39) rfl w3.heap.size (Rf.cells ⟨8, m2, zeroF⟩) rfl rfl TRf zeroR.cells (heap_alloc_new w3 _) infoTRf rfl (rcells_one _) ?_; change wpList _ _ _ _ _ (stored w3 TRf zeroR.cells (Rf.cells ⟨8, m2, zeroF⟩)); have r4n := Lib.hid (stored_new w3 TRf zeroR.cells (Rf.cells ⟨8, m2, zeroF⟩)); have r4 := Lib.hid (stored_old (t := TRf) (o := zeroR.cells) (cs := Rf.cells ⟨8, m2, zeroF⟩) r3.out); have k4 := Lib.hid (k3.out.trans ((stored_below w3 TRf zeroR.cells (Rf.cells ⟨8, m2, zeroF⟩)).mono k3.out.size)); have hl4 := hl3.below (stored_below w3 TRf zeroR.cells (Rf.cells ⟨8, m2, zeroF⟩)); generalize stored w3 TRf zeroR.cells (Rf.cells ⟨8, m2, zeroF⟩) = w4 at *) | (go_at_call 53; (with_reducible refine (cutPre_is s ⟨#[101, 97, 99, 104, 40]⟩ _ eachW e1 r _ H1).mono ?_); rintro e w0 ⟨rfl, rfl⟩) | (go_at_call 54; (with_reducible refine (cutSuf_is (B r) ⟨#[41]⟩ _ hrl.out [41] e2 i _ H2).mono ?_); rintro e w0 ⟨rfl, rfl⟩) | (go_at_call 55; (with_reducible refine (fltParse_is (B i) hil.out _ hl4 G _ H3).mono ?_); rintro e w5 ⟨rfl, hb5⟩; have r5 := Lib.hid (blk_below2 hb5 r4.out); have k5 := Lib.hid (below_two k4.out hb5)) | (refine wpList_store_row rfl TF (.tmp 11) (.tmp 56) rfl w5.heap.size G.cells rfl rfl TF zeroF.cells (heap_alloc_new w5 _) infoTF rfl (cells_one _) ?_; change wpList _ _ _ _ _ (stored w5 TF zeroF.cells G.cells); have r6n := Lib.hid (stored_new w5 TF zeroF.cells G.cells); have r6 := Lib.hid (stored_old (t := TF) (o := zeroF.cells) (cs := G.cells) r5.out); have k6 := Lib.hid (k5.out.trans ((stored_below w5 TF zeroF.cells G.cells).mono k5.out.size)); generalize stored w5 TF zeroF.cells G.cells = w6 at *) | refine wpList_load_row rfl TF (.tmp 11) rfl w5.heap.size rfl TF G.cells (0, 0) _ r6n.out Tryz.underlying25 rfl infoTF ?_ | (refine wpList_store_row rfl TRf (.tmp 2) (.tmp 68) rfl w.heap.size zeroR.cells rfl rfl TRf zeroR.cells r6.out infoTRf rfl (rcells_one _) ?_))
  all_goals exact bodyPost_ret (results_cell_row rfl _ _ w.heap.size TRf (Rf.cells zeroR) (0, 0) _ rfl (row_set r6.out) Tryz.underlying27 rfl infoTRf) rfl ⟨rfl, below_setRow k6.out (Nat.le_refl _) _⟩
set_option maxRecDepth 100000 in
set_option maxHeartbeats 2000000 in
theorem read_zero2 (s : ByteArray) (hs : s.size < 100000000) (w : World) (hl : Laid w) (n0 : ¬ L s = wd refT 1) (n1 : ¬ L s = wd refT 2) (n2 : ¬ L s = wd refT 5) (n3 : ¬ L s = wd refT 6) (n4 : ¬ L s = wd refT 7) (HO1 : Hid (readNum (L s) targetW = none)) (HO2 : Hid (readNum (L s) ownerW = none)) (r i : Str) (G : Flt) (c : Int) (H1 : Hid (Lib.trimPrefix (L s) eachW = r ∧ Lib.hasPrefix (L s) eachW = true)) (H2 : Hid (Lib.trimSuffix (L (B r)) [41] = i ∧ Lib.hasSuffix (L (B r)) [41] = false)) (H3 : Hid (fltRet (parseS (L (B i))) = .tuple #[.agg G.cells, .int .i64 c])) (hrl : Hid ((B r).size < 1000000000)) (hil : Hid ((B i).size < 100000000)) :
    Calls Tryz.prog 23 #[.string s] w fun e w' => e = .returned (.agg (Rf.cells zeroR)) ∧ Below w.heap.size w w' := by
  have e1 : L ⟨#[101, 97, 99, 104, 40]⟩ = eachW := rfl
  have e2 : L ⟨#[41]⟩ = [41] := rfl
  have t0 : (s.toList == [121, 111, 117]) = false := toList_lit_no n0
  have t1 : (s.toList == [115, 101, 108, 102]) = false := toList_lit_no n1
  have t2 : (s.toList == [111, 112, 112, 111, 110, 101, 110, 116, 115]) = false := toList_lit_no n2
  have t3 : (s.toList == [112, 108, 97, 121, 101, 114, 115]) = false := toList_lit_no n3
  have t4 : (s.toList == [105, 116]) = false := toList_lit_no n4
  have r0 := Lib.hid (heap_alloc_new w (.cells zeroR.cells TRf))
  have hl1 := hl.alloc (.cells zeroR.cells TRf)
  have k0 : Hid (Below w.heap.size w (w.alloc (.cells zeroR.cells TRf))) := Lib.hid ((Below.refl _ _).alloc (Nat.le_refl _) _)
  clear n0 n1 n2 n3 n4
  go_enter Tryz.func23, Tryz.ntmps23
  go_wp2_with fail
  refine (numbered_any s ⟨#[116, 97, 114, 103, 101, 116]⟩ targetW rfl 3 hs _ hl1).mono ?_
  rintro e w1 ⟨n, b, rfl, hb1, hy, hn⟩
  have r1 := Lib.hid (blk_new hb1)
  have k1 := Lib.hid (below_two k0.out hb1)
  have hl1b := hl1.below hb1
  obtain rfl : b = false := by
    cases b with
    | false => rfl
    | true => have := hy rfl; rw [HO1.out] at this; cases this
  clear hy hn hb1
  dsimp only
  go_wp2_with (refine wpList_store_row rfl TRf (.tmp 3) (.tmp 32) rfl w1.heap.size (Rf.cells ⟨3, n, zeroF⟩) rfl rfl TRf zeroR.cells (heap_alloc_new w1 _) infoTRf rfl (rcells_one _) ?_; change wpList _ _ _ _ _ (stored w1 TRf zeroR.cells (Rf.cells ⟨3, n, zeroF⟩)); have r2n := Lib.hid (stored_new w1 TRf zeroR.cells (Rf.cells ⟨3, n, zeroF⟩)); have r2 := Lib.hid (stored_old (t := TRf) (o := zeroR.cells) (cs := Rf.cells ⟨3, n, zeroF⟩) r1.out); have k2 := Lib.hid (k1.out.trans ((stored_below w1 TRf zeroR.cells (Rf.cells ⟨3, n, zeroF⟩)).mono k1.out.size)); have hl2 := hl1b.below (stored_below w1 TRf zeroR.cells (Rf.cells ⟨3, n, zeroF⟩)); generalize stored w1 TRf zeroR.cells (Rf.cells ⟨3, n, zeroF⟩) = w2 at *)
  refine (numbered_any s ⟨#[111, 119, 110, 101, 114]⟩ ownerW rfl 8 hs _ hl2).mono ?_
  rintro e w3 ⟨m2, b, rfl, hb3, hy, hn⟩
  have r3 := Lib.hid (blk_below2 hb3 r2.out)
  have k3 := Lib.hid (below_two k2.out hb3)
  have hl3 := hl2.below hb3
  obtain rfl : b = false := by
    cases b with
    | false => rfl
    | true => have := hy rfl; rw [HO2.out] at this; cases this
  clear hy hn hb3
  dsimp only
  go_wp2_with (first | (refine wpList_store_row rfl TRf (.tmp 5) (.tmp 39) rfl w3.heap.size (Rf.cells ⟨8, m2, zeroF⟩) rfl rfl TRf zeroR.cells (heap_alloc_new w3 _) infoTRf rfl (rcells_one _) ?_; change wpList _ _ _ _ _ (stored w3 TRf zeroR.cells (Rf.cells ⟨8, m2, zeroF⟩)); have r4n := Lib.hid (stored_new w3 TRf zeroR.cells (Rf.cells ⟨8, m2, zeroF⟩)); have r4 := Lib.hid (stored_old (t := TRf) (o := zeroR.cells) (cs := Rf.cells ⟨8, m2, zeroF⟩) r3.out); have k4 := Lib.hid (k3.out.trans ((stored_below w3 TRf zeroR.cells (Rf.cells ⟨8, m2, zeroF⟩)).mono k3.out.size)); have hl4 := hl3.below (stored_below w3 TRf zeroR.cells (Rf.cells ⟨8, m2, zeroF⟩)); generalize stored w3 TRf zeroR.cells (Rf.cells ⟨8, m2, zeroF⟩) = w4 at *) | (go_at_call 53; (with_reducible refine (cutPre_is s ⟨#[101, 97, 99, 104, 40]⟩ _ eachW e1 r _ H1).mono ?_); rintro e w0 ⟨rfl, rfl⟩) | (go_at_call 54; (with_reducible refine (cutSuf_is (B r) ⟨#[41]⟩ _ hrl.out [41] e2 i _ H2).mono ?_); rintro e w0 ⟨rfl, rfl⟩) | (go_at_call 55; (with_reducible refine (fltParse_is (B i) hil.out _ hl4 G _ H3).mono ?_); rintro e w5 ⟨rfl, hb5⟩; have r5 := Lib.hid (blk_below2 hb5 r4.out); have k5 := Lib.hid (below_two k4.out hb5)) | (refine wpList_store_row rfl TF (.tmp 11) (.tmp 56) rfl w5.heap.size G.cells rfl rfl TF zeroF.cells (heap_alloc_new w5 _) infoTF rfl (cells_one _) ?_; change wpList _ _ _ _ _ (stored w5 TF zeroF.cells G.cells); have r6n := Lib.hid (stored_new w5 TF zeroF.cells G.cells); have r6 := Lib.hid (stored_old (t := TF) (o := zeroF.cells) (cs := G.cells) r5.out); have k6 := Lib.hid (k5.out.trans ((stored_below w5 TF zeroF.cells G.cells).mono k5.out.size)); generalize stored w5 TF zeroF.cells G.cells = w6 at *) | refine wpList_load_row rfl TF (.tmp 11) rfl w5.heap.size rfl TF G.cells (0, 0) _ r6n.out Tryz.underlying25 rfl infoTF ?_ | (refine wpList_store_row rfl TRf (.tmp 2) (.tmp 68) rfl w.heap.size zeroR.cells rfl rfl TRf zeroR.cells r6.out infoTRf rfl (rcells_one _) ?_))
  all_goals exact bodyPost_ret (results_cell_row rfl _ _ w.heap.size TRf (Rf.cells zeroR) (0, 0) _ rfl (row_set r6.out) Tryz.underlying27 rfl infoTRf) rfl ⟨rfl, below_setRow k6.out (Nat.le_refl _) _⟩
set_option maxRecDepth 100000 in
set_option maxHeartbeats 2000000 in
theorem read_zero3 (s : ByteArray) (hs : s.size < 100000000) (w : World) (hl : Laid w) (n0 : ¬ L s = wd refT 1) (n1 : ¬ L s = wd refT 2) (n2 : ¬ L s = wd refT 5) (n3 : ¬ L s = wd refT 6) (n4 : ¬ L s = wd refT 7) (HO1 : Hid (readNum (L s) targetW = none)) (HO2 : Hid (readNum (L s) ownerW = none)) (r i : Str) (G : Flt) (H1 : Hid (Lib.trimPrefix (L s) eachW = r ∧ Lib.hasPrefix (L s) eachW = true)) (H2 : Hid (Lib.trimSuffix (L (B r)) [41] = i ∧ Lib.hasSuffix (L (B r)) [41] = true)) (H3 : Hid (fltRet (parseS (L (B i))) = .tuple #[.agg G.cells, .int .i64 3])) (hrl : Hid ((B r).size < 1000000000)) (hil : Hid ((B i).size < 100000000)) :
    Calls Tryz.prog 23 #[.string s] w fun e w' => e = .returned (.agg (Rf.cells zeroR)) ∧ Below w.heap.size w w' := by
  have e1 : L ⟨#[101, 97, 99, 104, 40]⟩ = eachW := rfl
  have e2 : L ⟨#[41]⟩ = [41] := rfl
  have t0 : (s.toList == [121, 111, 117]) = false := toList_lit_no n0
  have t1 : (s.toList == [115, 101, 108, 102]) = false := toList_lit_no n1
  have t2 : (s.toList == [111, 112, 112, 111, 110, 101, 110, 116, 115]) = false := toList_lit_no n2
  have t3 : (s.toList == [112, 108, 97, 121, 101, 114, 115]) = false := toList_lit_no n3
  have t4 : (s.toList == [105, 116]) = false := toList_lit_no n4
  have r0 := Lib.hid (heap_alloc_new w (.cells zeroR.cells TRf))
  have hl1 := hl.alloc (.cells zeroR.cells TRf)
  have k0 : Hid (Below w.heap.size w (w.alloc (.cells zeroR.cells TRf))) := Lib.hid ((Below.refl _ _).alloc (Nat.le_refl _) _)
  clear n0 n1 n2 n3 n4
  go_enter Tryz.func23, Tryz.ntmps23
  go_wp2_with fail
  refine (numbered_any s ⟨#[116, 97, 114, 103, 101, 116]⟩ targetW rfl 3 hs _ hl1).mono ?_
  rintro e w1 ⟨n, b, rfl, hb1, hy, hn⟩
  have r1 := Lib.hid (blk_new hb1)
  have k1 := Lib.hid (below_two k0.out hb1)
  have hl1b := hl1.below hb1
  obtain rfl : b = false := by
    cases b with
    | false => rfl
    | true => have := hy rfl; rw [HO1.out] at this; cases this
  clear hy hn hb1
  dsimp only
  go_wp2_with (refine wpList_store_row rfl TRf (.tmp 3) (.tmp 32) rfl w1.heap.size (Rf.cells ⟨3, n, zeroF⟩) rfl rfl TRf zeroR.cells (heap_alloc_new w1 _) infoTRf rfl (rcells_one _) ?_; change wpList _ _ _ _ _ (stored w1 TRf zeroR.cells (Rf.cells ⟨3, n, zeroF⟩)); have r2n := Lib.hid (stored_new w1 TRf zeroR.cells (Rf.cells ⟨3, n, zeroF⟩)); have r2 := Lib.hid (stored_old (t := TRf) (o := zeroR.cells) (cs := Rf.cells ⟨3, n, zeroF⟩) r1.out); have k2 := Lib.hid (k1.out.trans ((stored_below w1 TRf zeroR.cells (Rf.cells ⟨3, n, zeroF⟩)).mono k1.out.size)); have hl2 := hl1b.below (stored_below w1 TRf zeroR.cells (Rf.cells ⟨3, n, zeroF⟩)); generalize stored w1 TRf zeroR.cells (Rf.cells ⟨3, n, zeroF⟩) = w2 at *)
  refine (numbered_any s ⟨#[111, 119, 110, 101, 114]⟩ ownerW rfl 8 hs _ hl2).mono ?_
  rintro e w3 ⟨m2, b, rfl, hb3, hy, hn⟩
  have r3 := Lib.hid (blk_below2 hb3 r2.out)
  have k3 := Lib.hid (below_two k2.out hb3)
  have hl3 := hl2.below hb3
  obtain rfl : b = false := by
    cases b with
    | false => rfl
    | true => have := hy rfl; rw [HO2.out] at this; cases this
  clear hy hn hb3
  dsimp only
  go_wp2_with (first | (refine wpList_store_row rfl TRf (.tmp 5) (.tmp 39) rfl w3.heap.size (Rf.cells ⟨8, m2, zeroF⟩) rfl rfl TRf zeroR.cells (heap_alloc_new w3 _) infoTRf rfl (rcells_one _) ?_; change wpList _ _ _ _ _ (stored w3 TRf zeroR.cells (Rf.cells ⟨8, m2, zeroF⟩)); have r4n := Lib.hid (stored_new w3 TRf zeroR.cells (Rf.cells ⟨8, m2, zeroF⟩)); have r4 := Lib.hid (stored_old (t := TRf) (o := zeroR.cells) (cs := Rf.cells ⟨8, m2, zeroF⟩) r3.out); have k4 := Lib.hid (k3.out.trans ((stored_below w3 TRf zeroR.cells (Rf.cells ⟨8, m2, zeroF⟩)).mono k3.out.size)); have hl4 := hl3.below (stored_below w3 TRf zeroR.cells (Rf.cells ⟨8, m2, zeroF⟩)); generalize stored w3 TRf zeroR.cells (Rf.cells ⟨8, m2, zeroF⟩) = w4 at *) | (go_at_call 53; (with_reducible refine (cutPre_is s ⟨#[101, 97, 99, 104, 40]⟩ _ eachW e1 r _ H1).mono ?_); rintro e w0 ⟨rfl, rfl⟩) | (go_at_call 54; (with_reducible refine (cutSuf_is (B r) ⟨#[41]⟩ _ hrl.out [41] e2 i _ H2).mono ?_); rintro e w0 ⟨rfl, rfl⟩) | (go_at_call 55; (with_reducible refine (fltParse_is (B i) hil.out _ hl4 G _ H3).mono ?_); rintro e w5 ⟨rfl, hb5⟩; have r5 := Lib.hid (blk_below2 hb5 r4.out); have k5 := Lib.hid (below_two k4.out hb5)) | (refine wpList_store_row rfl TF (.tmp 11) (.tmp 56) rfl w5.heap.size G.cells rfl rfl TF zeroF.cells (heap_alloc_new w5 _) infoTF rfl (cells_one _) ?_; change wpList _ _ _ _ _ (stored w5 TF zeroF.cells G.cells); have r6n := Lib.hid (stored_new w5 TF zeroF.cells G.cells); have r6 := Lib.hid (stored_old (t := TF) (o := zeroF.cells) (cs := G.cells) r5.out); have k6 := Lib.hid (k5.out.trans ((stored_below w5 TF zeroF.cells G.cells).mono k5.out.size)); generalize stored w5 TF zeroF.cells G.cells = w6 at *) | refine wpList_load_row rfl TF (.tmp 11) rfl w5.heap.size rfl TF G.cells (0, 0) _ r6n.out Tryz.underlying25 rfl infoTF ?_ | (refine wpList_store_row rfl TRf (.tmp 2) (.tmp 68) rfl w.heap.size zeroR.cells rfl rfl TRf zeroR.cells r6.out infoTRf rfl (rcells_one _) ?_))
  all_goals exact bodyPost_ret (results_cell_row rfl _ _ w.heap.size TRf (Rf.cells zeroR) (0, 0) _ rfl (row_set r6.out) Tryz.underlying27 rfl infoTRf) rfl ⟨rfl, below_setRow k6.out (Nat.le_refl _) _⟩
end Go.Proofs.YtbiakbogpbncfaaGreatDoor
