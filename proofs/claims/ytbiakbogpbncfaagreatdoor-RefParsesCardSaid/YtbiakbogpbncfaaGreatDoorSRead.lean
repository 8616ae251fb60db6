/- Walks: package ref: numbered, read, Parse. Conditions: Laid; the text is shorter than 100 million bytes. -/
import Derived.Test.YtbiakbogpbncfaaGreatDoorSText
import Derived.Test.YtbiakbogpbncfaaGreatDoorTak
import Derived.Test.YtbiakbogpbncfaaGreatDoorFil
namespace Go.Proofs.YtbiakbogpbncfaaGreatDoor
set_option linter.all false
open Go.ChangeShapes Go.WideShapes Go.RowKit
theorem rcells_one (r : Rf) : r.cells.all (·.oneCell') = true := by simp [Rf.cells, Value.oneCell']
theorem cutPre_is (s p : ByteArray) (w : World) (pl : Str) (hp : L p = pl) (r : Str) (b : Bool) (h : Hid (Lib.trimPrefix (L s) pl = r ∧ Lib.hasPrefix (L s) pl = b)) :
    Calls Tryz.prog 53 #[.string s, .string p] w fun e w' => e = .returned (.tuple #[.string (B r), .bool b]) ∧ w = w' :=
  (cutPrefix_any s p w pl hp).mono fun e w' h' => ⟨by rw [h'.1, h.out.1, h.out.2], h'.2⟩
theorem cutSuf_is (s p : ByteArray) (w : World) (hs : s.size < 1000000000) (pl : Str) (hp : L p = pl) (r : Str) (b : Bool) (h : Hid (Lib.trimSuffix (L s) pl = r ∧ Lib.hasSuffix (L s) pl = b)) :
    Calls Tryz.prog 54 #[.string s, .string p] w fun e w' => e = .returned (.tuple #[.string (B r), .bool b]) ∧ w = w' := by
  subst hp
  exact (Tryz.strings_CutSuffix s p w (by omega)).mono fun e w' h' => ⟨h'.1.trans (by rw [← h.out.1, ← h.out.2]; rfl), h'.2.symm⟩
theorem number_is (s : ByteArray) (w : World) (hl : Laid w) (hs : s.size < 4294967281) (n : Int) (b : Bool) (h : Hid (numRet (numOf (L s)) = .tuple #[.int .i64 n, .bool b])) :
    Calls Tryz.prog 76 #[.string s] w fun e w' => e = .returned (.tuple #[.int .i64 n, .bool b]) ∧ Below w.heap.size w w' :=
  (number_any s w hl hs).mono fun e w' h' => ⟨by rw [h'.1, h.out], h'.2⟩
theorem numRet_form (o : Option Int) : ∃ n b, numRet o = .tuple #[.int .i64 n, .bool b] ∧ (b = true → o = some n) ∧ (b = false → o = none) := by
  cases o with
  | none => exact ⟨0, false, rfl, (fun h => by cases h), fun _ => rfl⟩
  | some n => exact ⟨n, true, rfl, fun _ => rfl, fun h => by cases h⟩
/-- A reference and whether its number was read. -/
def RetNum (k : Int) (o : Option Int) (w : World) (e : Ending) (w' : World) : Prop := ∃ n, ∃ b, e = .returned (.tuple #[.agg (Rf.cells ⟨k, n, zeroF⟩), .bool b]) ∧ Below w.heap.size w w' ∧ (b = true → o = some n) ∧ (b = false → o = none)
set_option maxRecDepth 100000 in
set_option maxHeartbeats 1000000 in
theorem numbered_any (s p : ByteArray) (pl : Str) (hp : L p = pl) (k : Int) (hs : s.size < 100000000) (w : World) (hl : Laid w) :
    Calls Tryz.prog 52 #[.string s, .string p, .int .i64 k] w (RetNum k (readNum (L s) pl) w) := by
  obtain ⟨r, hr⟩ : ∃ r, Lib.trimPrefix (L s) pl = r := ⟨_, rfl⟩
  obtain ⟨b, hb⟩ : ∃ b, Lib.hasPrefix (L s) pl = b := ⟨_, rfl⟩
  have hrl : r.length < 100000000 := by have := Lib.trimPrefix_le (L s) pl; rw [hr, size_l] at this; omega
  obtain ⟨n, c, hn, hn1, hn2⟩ := numRet_form (numOf r)
  have HC := Lib.hid (And.intro hr hb)
  have HN : Hid (numRet (numOf (L (B r))) = .tuple #[.int .i64 n, .bool c]) := Lib.hid hn
  have hO : readNum (L s) pl = if b = true then numOf r else none := by unfold readNum; rw [hb, hr]
  generalize readNum (L s) pl = O at *
  have HO := Lib.hid hO
  have H12 := Lib.hid (And.intro hn1 hn2)
  have hl1 := hl.alloc (.cells zeroR.cells TRf)
  have r0 := Lib.hid (heap_alloc_new w (.cells zeroR.cells TRf))
  have hrs : (B r).size < 4294967281 := by rw [B_size]; omega
  have HRS := Lib.hid hrs
  clear hr hb hn hn1 hn2 hO hrs
  cases b
  all_goals
    go_enter Tryz.func52, Tryz.ntmps52
    go_wp2_with (first | (go_at_call 53; (with_reducible refine (cutPre_is s p _ pl hp r _ HC).mono ?_); rintro e w0 ⟨rfl, rfl⟩) | (go_at_call 76; (with_reducible refine (number_is (B r) _ (hl.alloc _) HRS.out n c HN).mono ?_); rintro e w1 ⟨rfl, hb1⟩; have r1 := Lib.hid (blk_new hb1)) | refine wpList_store_row rfl TRf (.tmp 6) (.tmp 25) rfl w.heap.size (Rf.cells ⟨k, n, zeroF⟩) rfl rfl TRf zeroR.cells r1.out infoTRf rfl (rcells_one _) ?_)
  · refine bodyPost_ret (results_row_tmp rfl _ _ w.heap.size TRf (Rf.cells ⟨k, n, zeroF⟩) (0, 0) _ rfl (row_set r1.out) Tryz.underlying27 rfl infoTRf) rfl ⟨n, false, rfl, below_setRow (below_two ((Below.refl _ _).alloc (Nat.le_refl _) _) hb1) (Nat.le_refl _) _, (fun h => by cases h), fun _ => HO.out⟩
  · refine bodyPost_ret (results_row_tmp rfl _ _ w.heap.size TRf (Rf.cells ⟨k, n, zeroF⟩) (0, 0) _ rfl (row_set r1.out) Tryz.underlying27 rfl infoTRf) rfl ⟨n, c, rfl, below_setRow (below_two ((Below.refl _ _).alloc (Nat.le_refl _) _) hb1) (Nat.le_refl _) _, fun h => HO.out.trans (H12.out.1 h), fun h => HO.out.trans (H12.out.2 h)⟩
set_option maxRecDepth 100000 in
theorem read_w0 (s : ByteArray) (w : World)  (h : L s = wd refT 1) :
    Calls Tryz.prog 23 #[.string s] w fun e w' => e = .returned (.agg (Rf.cells ⟨1, 0, zeroF⟩)) ∧ Below w.heap.size w w' := by
  have t0 : (s.toList == [121, 111, 117]) = true := toList_lit_yes h
  have r0 := Lib.hid (heap_alloc_new w (.cells zeroR.cells TRf))
  clear h
  go_enter Tryz.func23, Tryz.ntmps23
  go_wp2_with (refine wpList_store_row rfl TRf (.tmp 2) (.tmp 16) rfl w.heap.size (Rf.cells ⟨1, 0, zeroF⟩) rfl rfl TRf zeroR.cells r0.out infoTRf rfl (rcells_one _) ?_)
  exact bodyPost_ret (results_cell_row rfl _ _ w.heap.size TRf (Rf.cells ⟨1, 0, zeroF⟩) (0, 0) _ rfl (row_set r0.out) Tryz.underlying27 rfl infoTRf) rfl ⟨rfl, below_setRow ((Below.refl _ _).alloc (Nat.le_refl _) _) (Nat.le_refl _) _⟩
set_option maxRecDepth 100000 in
theorem read_w1 (s : ByteArray) (w : World) (n0 : ¬ L s = wd refT 1) (h : L s = wd refT 2) :
    Calls Tryz.prog 23 #[.string s] w fun e w' => e = .returned (.agg (Rf.cells ⟨2, 0, zeroF⟩)) ∧ Below w.heap.size w w' := by
  have t0 : (s.toList == [121, 111, 117]) = false := toList_lit_no n0
  have t1 : (s.toList == [115, 101, 108, 102]) = true := toList_lit_yes h
  have r0 := Lib.hid (heap_alloc_new w (.cells zeroR.cells TRf))
  clear h n0
  go_enter Tryz.func23, Tryz.ntmps23
  go_wp2_with (refine wpList_store_row rfl TRf (.tmp 2) (.tmp 19) rfl w.heap.size (Rf.cells ⟨2, 0, zeroF⟩) rfl rfl TRf zeroR.cells r0.out infoTRf rfl (rcells_one _) ?_)
  exact bodyPost_ret (results_cell_row rfl _ _ w.heap.size TRf (Rf.cells ⟨2, 0, zeroF⟩) (0, 0) _ rfl (row_set r0.out) Tryz.underlying27 rfl infoTRf) rfl ⟨rfl, below_setRow ((Below.refl _ _).alloc (Nat.le_refl _) _) (Nat.le_refl _) _⟩
set_option maxRecDepth 100000 in
theorem read_w2 (s : ByteArray) (w : World) (n0 : ¬ L s = wd refT 1) (n1 : ¬ L s = wd refT 2) (h : L s = wd refT 5) :
    Calls Tryz.prog 23 #[.string s] w fun e w' => e = .returned (.agg (Rf.cells ⟨5, 0, zeroF⟩)) ∧ Below w.heap.size w w' := by
  have t0 : (s.toList == [121, 111, 117]) = false := toList_lit_no n0
  have t1 : (s.toList == [115, 101, 108, 102]) = false := toList_lit_no n1
  have t2 : (s.toList == [111, 112, 112, 111, 110, 101, 110, 116, 115]) = true := toList_lit_yes h
  have r0 := Lib.hid (heap_alloc_new w (.cells zeroR.cells TRf))
  clear h n0 n1
  go_enter Tryz.func23, Tryz.ntmps23
  go_wp2_with (refine wpList_store_row rfl TRf (.tmp 2) (.tmp 22) rfl w.heap.size (Rf.cells ⟨5, 0, zeroF⟩) rfl rfl TRf zeroR.cells r0.out infoTRf rfl (rcells_one _) ?_)
  exact bodyPost_ret (results_cell_row rfl _ _ w.heap.size TRf (Rf.cells ⟨5, 0, zeroF⟩) (0, 0) _ rfl (row_set r0.out) Tryz.underlying27 rfl infoTRf) rfl ⟨rfl, below_setRow ((Below.refl _ _).alloc (Nat.le_refl _) _) (Nat.le_refl _) _⟩
set_option maxRecDepth 100000 in
theorem read_w3 (s : ByteArray) (w : World) (n0 : ¬ L s = wd refT 1) (n1 : ¬ L s = wd refT 2) (n2 : ¬ L s = wd refT 5) (h : L s = wd refT 6) :
    Calls Tryz.prog 23 #[.string s] w fun e w' => e = .returned (.agg (Rf.cells ⟨6, 0, zeroF⟩)) ∧ Below w.heap.size w w' := by
  have t0 : (s.toList == [121, 111, 117]) = false := toList_lit_no n0
  have t1 : (s.toList == [115, 101, 108, 102]) = false := toList_lit_no n1
  have t2 : (s.toList == [111, 112, 112, 111, 110, 101, 110, 116, 115]) = false := toList_lit_no n2
  have t3 : (s.toList == [112, 108, 97, 121, 101, 114, 115]) = true := toList_lit_yes h
  have r0 := Lib.hid (heap_alloc_new w (.cells zeroR.cells TRf))
  clear h n0 n1 n2
  go_enter Tryz.func23, Tryz.ntmps23
  go_wp2_with (refine wpList_store_row rfl TRf (.tmp 2) (.tmp 25) rfl w.heap.size (Rf.cells ⟨6, 0, zeroF⟩) rfl rfl TRf zeroR.cells r0.out infoTRf rfl (rcells_one _) ?_)
  exact bodyPost_ret (results_cell_row rfl _ _ w.heap.size TRf (Rf.cells ⟨6, 0, zeroF⟩) (0, 0) _ rfl (row_set r0.out) Tryz.underlying27 rfl infoTRf) rfl ⟨rfl, below_setRow ((Below.refl _ _).alloc (Nat.le_refl _) _) (Nat.le_refl _) _⟩
set_option maxRecDepth 100000 in
theorem read_w4 (s : ByteArray) (w : World) (n0 : ¬ L s = wd refT 1) (n1 : ¬ L s = wd refT 2) (n2 : ¬ L s = wd refT 5) (n3 : ¬ L s = wd refT 6) (h : L s = wd refT 7) :
    Calls Tryz.prog 23 #[.string s] w fun e w' => e = .returned (.agg (Rf.cells ⟨7, 0, zeroF⟩)) ∧ Below w.heap.size w w' := by
  have t0 : (s.toList == [121, 111, 117]) = false := toList_lit_no n0
  have t1 : (s.toList == [115, 101, 108, 102]) = false := toList_lit_no n1
  have t2 : (s.toList == [111, 112, 112, 111, 110, 101, 110, 116, 115]) = false := toList_lit_no n2
  have t3 : (s.toList == [112, 108, 97, 121, 101, 114, 115]) = false := toList_lit_no n3
  have t4 : (s.toList == [105, 116]) = true := toList_lit_yes h
  have r0 := Lib.hid (heap_alloc_new w (.cells zeroR.cells TRf))
  clear h n0 n1 n2 n3
  go_enter Tryz.func23, Tryz.ntmps23
  go_wp2_with (refine wpList_store_row rfl TRf (.tmp 2) (.tmp 28) rfl w.heap.size (Rf.cells ⟨7, 0, zeroF⟩) rfl rfl TRf zeroR.cells r0.out infoTRf rfl (rcells_one _) ?_)
  exact bodyPost_ret (results_cell_row rfl _ _ w.heap.size TRf (Rf.cells ⟨7, 0, zeroF⟩) (0, 0) _ rfl (row_set r0.out) Tryz.underlying27 rfl infoTRf) rfl ⟨rfl, below_setRow ((Below.refl _ _).alloc (Nat.le_refl _) _) (Nat.le_refl _) _⟩
set_option maxRecDepth 100000 in
set_option maxHeartbeats 2000000 in
theorem read_target (s : ByteArray) (hs : s.size < 100000000) (w : World) (hl : Laid w) (n0 : ¬ L s = wd refT 1) (n1 : ¬ L s = wd refT 2) (n2 : ¬ L s = wd refT 5) (n3 : ¬ L s = wd refT 6) (n4 : ¬ L s = wd refT 7) (m : Int) (HO : Hid (readNum (L s) targetW = some m)) :
    Calls Tryz.prog 23 #[.string s] w fun e w' => e = .returned (.agg (Rf.cells ⟨3, m, zeroF⟩)) ∧ Below w.heap.size w w' := by
  have t0 : (s.toList == [121, 111, 117]) = false := toList_lit_no n0
  have t1 : (s.toList == [115, 101, 108, 102]) = false := toList_lit_no n1
  have t2 : (s.toList == [111, 112, 112, 111, 110, 101, 110, 116, 115]) = false := toList_lit_no n2
  have t3 : (s.toList == [112, 108, 97, 121, 101, 114, 115]) = false := toList_lit_no n3
  have t4 : (s.toList == [105, 116]) = false := toList_lit_no n4
  have r0 := Lib.hid (heap_alloc_new w (.cells zeroR.cells TRf))
  have hl1 := hl.alloc (.cells zeroR.cells TRf)
  have k0 : Hid (Below w.heap.size w (w.alloc (.cells zeroR.cells TRf))) := Lib.hid ((Below.refl _ _).alloc (Nat.le_refl _) _)
  clear n0 n1 n2 n3 n4
  go_enter Tryz.func23, Tryz.ntmps23
  go_wp2_with fail
  refine (numbered_any s ⟨#[116, 97, 114, 103, 101, 116]⟩ targetW rfl 3 hs _ hl1).mono ?_
  rintro e w1 ⟨n, b, rfl, hb1, hy, hn⟩
  have r1 := Lib.hid (blk_new hb1)
  have k1 := Lib.hid (below_two k0.out hb1)
  have hl1b := hl1.below hb1
  obtain rfl : b = true := by
    cases b with
    | true => rfl
    | false => have := hn rfl; rw [HO.out] at this; cases this
  have hm := hy rfl
  rw [HO.out] at hm
  injection hm with hm
  subst hm
  clear hy hn
  dsimp only
  go_wp2_with (first | refine wpList_load_row rfl TRf (.tmp 3) rfl w1.heap.size rfl TRf (Rf.cells ⟨3, m, zeroF⟩) (0, 0) _ r2n.out Tryz.underlying27 rfl infoTRf ?_ | (refine wpList_store_row rfl TRf (.tmp 3) (.tmp 32) rfl w1.heap.size (Rf.cells ⟨3, m, zeroF⟩) rfl rfl TRf zeroR.cells (heap_alloc_new w1 _) infoTRf rfl (rcells_one _) ?_; change wpList _ _ _ _ _ (stored w1 TRf zeroR.cells (Rf.cells ⟨3, m, zeroF⟩)); have r2n := Lib.hid (stored_new w1 TRf zeroR.cells (Rf.cells ⟨3, m, zeroF⟩)); have r2 := Lib.hid (stored_old (t := TRf) (o := zeroR.cells) (cs := Rf.cells ⟨3, m, zeroF⟩) r1.out); have k2 := Lib.hid (k1.out.trans ((stored_below w1 TRf zeroR.cells (Rf.cells ⟨3, m, zeroF⟩)).mono k1.out.size)); have hl2 := hl1b.below (stored_below w1 TRf zeroR.cells (Rf.cells ⟨3, m, zeroF⟩)); generalize stored w1 TRf zeroR.cells (Rf.cells ⟨3, m, zeroF⟩) = w2 at *) | refine wpList_store_row rfl TRf (.tmp 2) (.tmp 35) rfl w.heap.size (Rf.cells ⟨3, m, zeroF⟩) rfl rfl TRf zeroR.cells r2.out infoTRf rfl (rcells_one _) ?_)
  exact bodyPost_ret (results_cell_row rfl _ _ w.heap.size TRf (Rf.cells ⟨3, m, zeroF⟩) (0, 0) _ rfl (row_set r2.out) Tryz.underlying27 rfl infoTRf) rfl ⟨rfl, below_setRow k2.out (Nat.le_refl _) _⟩
set_option maxRecDepth 100000 in
set_option maxHeartbeats 2000000 in
theorem read_owner (s : ByteArray) (hs : s.size < 100000000) (w : World) (hl : Laid w) (n0 : ¬ L s = wd refT 1) (n1 : ¬ L s = wd refT 2) (n2 : ¬ L s = wd refT 5) (n3 : ¬ L s = wd refT 6) (n4 : ¬ L s = wd refT 7) (HO1 : Hid (readNum (L s) targetW = none)) (m : Int) (HO : Hid (readNum (L s) ownerW = some m)) :
    Calls Tryz.prog 23 #[.string s] w fun e w' => e = .returned (.agg (Rf.cells ⟨8, m, zeroF⟩)) ∧ Below w.heap.size w w' := by
  have t0 : (s.toList == [121, 111, 117]) = false := toList_lit_no n0
  have t1 : (s.toList == [115, 101, 108, 102]) = false := toList_lit_no n1
  have t2 : (s.toList == [111, 112, 112, 111, 110, 101, 110, 116, 115]) = false := toList_lit_no n2
  have t3 : (s.toList == [112, 108, 97, 121, 101, 114, 115]) = false := toList_lit_no n3
  have t4 : (s.toList == [105, 116]) = false := toList_lit_no n4
  have r0 := Lib.hid (heap_alloc_new w (.cells zeroR.cells TRf))
  have hl1 := hl.alloc (.cells zeroR.cells TRf)
  have k0 : Hid (Below w.heap.size w (w.alloc (.cells zeroR.cells TRf))) := Lib.hid ((Below.refl _ _).alloc (Nat.le_refl _) _)
  clear n0 n1 n2 n3 n4
  go_enter Tryz.func23, Tryz.ntmps23
  go_wp2_with fail
  refine (numbered_any s ⟨#[116, 97, 114, 103, 101, 116]⟩ targetW rfl 3 hs _ hl1).mono ?_
  rintro e w1 ⟨n, b, rfl, hb1, hy, hn⟩
  have r1 := Lib.hid (blk_new hb1)
  have k1 := Lib.hid (below_two k0.out hb1)
  have hl1b := hl1.below hb1
  obtain rfl : b = false := by
    cases b with
    | false => rfl
    | true => have := hy rfl; rw [HO1.out] at this; cases this
  clear hy hn hb1
  dsimp only
  go_wp2_with (refine wpList_store_row rfl TRf (.tmp 3) (.tmp 32) rfl w1.heap.size (Rf.cells ⟨3, n, zeroF⟩) rfl rfl TRf zeroR.cells (heap_alloc_new w1 _) infoTRf rfl (rcells_one _) ?_; change wpList _ _ _ _ _ (stored w1 TRf zeroR.cells (Rf.cells ⟨3, n, zeroF⟩)); have r2n := Lib.hid (stored_new w1 TRf zeroR.cells (Rf.cells ⟨3, n, zeroF⟩)); have r2 := Lib.hid (stored_old (t := TRf) (o := zeroR.cells) (cs := Rf.cells ⟨3, n, zeroF⟩) r1.out); have k2 := Lib.hid (k1.out.trans ((stored_below w1 TRf zeroR.cells (Rf.cells ⟨3, n, zeroF⟩)).mono k1.out.size)); have hl2 := hl1b.below (stored_below w1 TRf zeroR.cells (Rf.cells ⟨3, n, zeroF⟩)); generalize stored w1 TRf zeroR.cells (Rf.cells ⟨3, n, zeroF⟩) = w2 at *)
  refine (numbered_any s ⟨#[111, 119, 110, 101, 114]⟩ ownerW rfl 8 hs _ hl2).mono ?_
  rintro e w3 ⟨m2, b, rfl, hb3, hy, hn⟩
  have r3 := Lib.hid (blk_below2 hb3 r2.out)
  have k3 := Lib.hid (below_two k2.out hb3)
  have hl3 := hl2.below hb3
  obtain rfl : b = true := by
    cases b with
    | true => rfl
    | false => have := hn rfl; rw [HO.out] at this; cases this
  have hm := hy rfl
  rw [HO.out] at hm
  injection hm with hm
  subst hm
  clear hy hn hb3
  dsimp only
  go_wp2_with (first | refine wpList_load_row rfl TRf (.tmp 5) rfl w3.heap.size rfl TRf (Rf.cells ⟨8, m, zeroF⟩) (0, 0) _ r4n.out Tryz.underlying27 rfl infoTRf ?_ | (refine wpList_store_row rfl TRf (.tmp 5) (.tmp 39) rfl w3.heap.size (Rf.cells ⟨8, m, zeroF⟩) rfl rfl TRf zeroR.cells (heap_alloc_new w3 _) infoTRf rfl (rcells_one _) ?_; change wpList _ _ _ _ _ (stored w3 TRf zeroR.cells (Rf.cells ⟨8, m, zeroF⟩)); have r4n := Lib.hid (stored_new w3 TRf zeroR.cells (Rf.cells ⟨8, m, zeroF⟩)); have r4 := Lib.hid (stored_old (t := TRf) (o := zeroR.cells) (cs := Rf.cells ⟨8, m, zeroF⟩) r3.out); have k4 := Lib.hid (k3.out.trans ((stored_below w3 TRf zeroR.cells (Rf.cells ⟨8, m, zeroF⟩)).mono k3.out.size)); have hl4 := hl3.below (stored_below w3 TRf zeroR.cells (Rf.cells ⟨8, m, zeroF⟩)); generalize stored w3 TRf zeroR.cells (Rf.cells ⟨8, m, zeroF⟩) = w4 at *) | refine wpList_store_row rfl TRf (.tmp 2) (.tmp 42) rfl w.heap.size (Rf.cells ⟨8, m, zeroF⟩) rfl rfl TRf zeroR.cells r4.out infoTRf rfl (rcells_one _) ?_)
  exact bodyPost_ret (results_cell_row rfl _ _ w.heap.size TRf (Rf.cells ⟨8, m, zeroF⟩) (0, 0) _ rfl (row_set r4.out) Tryz.underlying27 rfl infoTRf) rfl ⟨rfl, below_setRow k4.out (Nat.le_refl _) _⟩
theorem fltParse_is (s : ByteArray) (hs : s.size < 100000000) (w : World) (hl : Laid w) (G : Flt) (c : Int) (h : Hid (fltRet (parseS (L s)) = .tuple #[.agg G.cells, .int .i64 c])) :
    Calls Tryz.prog 55 #[.string s] w fun e w' => e = .returned (.tuple #[.agg G.cells, .int .i64 c]) ∧ Below w.heap.size w w' :=
  (fltParse_any s w hl hs).mono fun e w' h' => ⟨by rw [h'.1, h.out], h'.2⟩
end Go.Proofs.YtbiakbogpbncfaaGreatDoor
