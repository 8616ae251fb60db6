/- Walks of the reference: package cardgameref13: read. Conditions: bounds. Walks of the reference: package cardgameref13: named. Conditions: masks and lengths. Walks of the reference: package cardgameref13: word. Conditions: masks and lengths. Plain law: the reference's reading of a filter's words gives what the program's gives. No program in sight. -/
import Derived.Test.YtakgfbcmkhcdkaaGreatDoorRefB
import Derived.Test.YtakgfbcmkhcdkaaGreatDoorFil
import Derived.Deep.DeepCutAuto
import Derived.Test.YtakgfbcmkhcdkaaGreatDoorPlain
import Derived.Test.YtakgfbcmkhcdkaaGreatDoorRefA
namespace Go.Proofs.YtakgfbcmkhcdkaaGreatDoor
set_option linter.all false
open Go.ChangeShapes Go.WideShapes Go.RowKit
abbrev TB : Nat := 23
theorem infoTB : (Tryz.prog.info? TB).map (·.size) = some 2 := by kernel_rfl
theorem fAfter_none (s b : ByteArray) (w : World) (hs : s.size < 1000000000) (hb : b.size < 1000000000) (h : qAfter (L s) (L b) = none) :
    Calls Tryz.prog 163 #[.string s, .string b] w fun e w' => e = .returned (.tuple #[.string ⟨#[]⟩, .bool false]) ∧ w = w' :=
  (fAfter_any s b w hs hb).mono fun e w' h' => ⟨by rw [h'.1, h]; rfl, h'.2⟩
theorem fAfter_some (s b : ByteArray) (r : Str) (w : World) (hs : s.size < 1000000000) (hb : b.size < 1000000000) (h : qAfter (L s) (L b) = some r) :
    Calls Tryz.prog 163 #[.string s, .string b] w fun e w' => e = .returned (.tuple #[.string (B r), .bool true]) ∧ w = w' :=
  (fAfter_any s b w hs hb).mono fun e w' h' => ⟨by rw [h'.1, h]; rfl, h'.2⟩
theorem rNumber_none (s : ByteArray) (w : World) (hs : s.size < 100000000) (h : rdNum (L s) = none) :
    Calls Tryz.prog 143 #[.string s] w fun e w' => e = .returned (.tuple #[.int .i64 0, .bool false]) ∧ Below w.heap.size w w' :=
  (rNumber_any s w hs).mono fun e w' h' => ⟨by rw [h'.1, h]; rfl, h'.2⟩
theorem rNumber_some (s : ByteArray) (n : Int) (w : World) (hs : s.size < 100000000) (h : rdNum (L s) = some n) :
    Calls Tryz.prog 143 #[.string s] w fun e w' => e = .returned (.tuple #[.int .i64 n, .bool true]) ∧ Below w.heap.size w w' :=
  (rNumber_any s w hs).mono fun e w' h' => ⟨by rw [h'.1, h]; rfl, h'.2⟩
/-- A bound's cells. -/
def bCells (k n : Int) : Array Value := #[.int .i64 k, .int .i64 n]
def RetBnd (w : World) (x : Nat × Int) (e : Ending) (w' : World) : Prop := e = .returned (.agg (bCells (x.1 : Nat) x.2)) ∧ Below w.heap.size w w'
theorem bCells_one (k n : Int) : (bCells k n).all (·.oneCell') = true := by simp [bCells, Value.oneCell']
theorem qAfter_len {s b r : Str} (h : qAfter s b = some r) : r.length ≤ s.length := by
  unfold qAfter at h; split at h
  · injection h with h; rw [← h]; simp
  · cases h
theorem new_kept {w w2 : World} {o : Obj} (hb : Below (w.alloc o).heap.size (w.alloc o) w2) : w2.heap[w.heap.size]? = some o := (hb.block _ (by simp)).trans (heap_alloc_new w o)
set_option maxRecDepth 100000 in
set_option maxHeartbeats 1000000 in
theorem fRead_any (s name : ByteArray) (nl : Str) (hnl : L name = nl) (hs : s.size < 100000000) (hn : name.size ≤ 100) (w : World) :
    Calls Tryz.prog 164 #[.string s, .string name] w (RetBnd w (qRead (L s) nl)) := by
  subst hnl
  obtain ⟨R, hR⟩ : ∃ R, qRead (L s) (L name) = R := ⟨_, rfl⟩
  rw [hR]
  have HR : Hid (((List.range' 1 (4 - 1)).findSome? (qr (L s) (L name))).getD (0, 0) = R) := Lib.hid hR
  clear hR
  go_enter Tryz.func164, Tryz.ntmps164
  go_wp2_with (go_at_call 132; (with_reducible refine (fSigns_any _).mono ?_); rintro e w1 ⟨A, c, rfl, ht, hb1⟩)
  obtain ⟨g, rfl, _, hg, hc⟩ := own_at ht (k := 0) (by decide)
  have HC := Lib.hid hc
  have hr1 := Lib.hid (new_kept hb1)
  have hB1 : Hid (Below w.heap.size w w1) := Lib.hid (below_two ((Below.refl _ _).alloc (Nat.le_refl _) _) hb1)
  have hlt1 : w.heap.size < w1.heap.size := by have := hb1.size; simp at this; omega
  clear hc hb1 ht
  have hsl : signT.length = 4 := rfl
  have hs4 : signT.length ≤ 4 := by decide
  have HSL := Lib.hid hsl; clear hsl
  go_loopw [6] (fun i wr => ∃ k : Nat, 1 ≤ k ∧ k ≤ signT.length ∧ i = .int .i64 k ∧ Below w1.heap.size w1 wr ∧ Hid (((List.range' k (4 - k)).findSome? (qr (L s) (L name))).getD (0, 0) = R)) (fun i _ => signT.length - (intOf i).toNat)
  case atStart => exact ⟨1, by omega, by decide, rfl, Below.refl _ _, HR⟩
  case round =>
    obtain ⟨k, hk1, hk, rfl, hq, HK⟩ := hrel
    have hrr : Hid (wr.heap[w.heap.size]? = some (.cells #[.int .i64 0, .int .i64 0] TB (0, 0))) := Lib.hid ((hq.block _ hlt1).trans hr1.out)
    have hBr : Hid (Below w.heap.size w wr) := Lib.hid (hB1.out.trans (hq.mono (by omega)))
    have hwr := Nat.lt_of_lt_of_le hlt1 hq.size
    by_cases hlt : k < signT.length
    · have hcl : wr.cell? ⟨g, k, none⟩ = some (.string (B signT[k])) := (hq.cell (p := ⟨g, k, none⟩) hg).trans ((HC.out k hlt).trans (strCells_at hlt))
      have hst : ((qr (L s) (L name) k).orElse fun _ => (List.range' (k + 1) (4 - (k + 1))).findSome? (qr (L s) (L name))).getD (0, 0) = R := by
        have := HK.out
        rw [show 4 - k = (4 - (k + 1)) + 1 by rw [HSL.out] at hlt; omega, List.range'_succ, List.findSome?_cons] at this
        cases hq : qr (L s) (L name) k with
        | none => rw [hq] at this; exact this
        | some x => rw [hq] at this; exact this
      have hqr : qr (L s) (L name) k = ((qAfter (L s) (L (name ++ B signT[k]))).bind rdNum).map fun n => (k, n) := by
        unfold qr; rw [L_append, L_B, wd_at hlt]
      have hxl : signT[k].length ≤ 2 := by rw [wd_at hlt]; exact wd_len (by decide) k
      generalize signT[k] = x at *
      have b1 : name.size + (B x).size ≤ 9223372036854775807 := by rw [B_size]; omega
      have hbn : (name ++ B x).size < 1000000000 := by rw [ByteArray.size_append, B_size]; omega
      have HBN := Lib.hid hbn
      clear hbn
      cases ha : qAfter (L s) (L (name ++ B x)) with
      | none =>
        rw [ha] at hqr
        rw [hqr] at hst
        have HA := Lib.hid ha
        have HN : Hid (((List.range' (k + 1) (4 - (k + 1))).findSome? (qr (L s) (L name))).getD (0, 0) = R) := Lib.hid hst
        clear ha hqr hst
        go_wp2_with (first | (go_at_call 163; (with_reducible refine (fAfter_none _ _ _ (by omega) HBN.out HA.out).mono ?_); rintro e w2 ⟨rfl, rfl⟩) | (go_at_call 143; (with_reducible refine (rNumber_none _ _ (by decide) rfl).mono ?_); rintro e w3 ⟨rfl, hb3⟩))
        have hq3 := below_two hq hb3
        go_roundw
        case rel => exact ⟨k + 1, by omega, by omega, by go_num, hq3, HN⟩
        case measure => simp [intOf]; omega
      | some r =>
        have hrl : r.length < 100000000 := by have := qAfter_len ha; rw [size_l] at this; omega
        rw [ha] at hqr
        have HA := Lib.hid ha
        cases hm : rdNum r with
        | none =>
          have hqr2 : qr (L s) (L name) k = none := by rw [hqr]; simp [hm]
          rw [hqr2] at hst
          have HM : Hid (rdNum (L (B r)) = none) := Lib.hid hm
          have HN : Hid (((List.range' (k + 1) (4 - (k + 1))).findSome? (qr (L s) (L name))).getD (0, 0) = R) := Lib.hid hst
          have HRL : Hid ((B r).size < 100000000) := Lib.hid (by rw [B_size]; exact hrl)
          clear ha hqr hst hqr2 hm
          go_wp2_with (first | (go_at_call 163; (with_reducible refine (fAfter_some _ _ r _ (by omega) HBN.out HA.out).mono ?_); rintro e w2 ⟨rfl, rfl⟩) | (go_at_call 143; (with_reducible refine (rNumber_none _ _ HRL.out HM.out).mono ?_); rintro e w3 ⟨rfl, hb3⟩))
          have hq3 := below_two hq hb3
          go_roundw
          case rel => exact ⟨k + 1, by omega, by omega, by go_num, hq3, HN⟩
          case measure => simp [intOf]; omega
        | some n =>
          have hqr2 : qr (L s) (L name) k = some (k, n) := by rw [hqr]; simp [hm]
          rw [hqr2] at hst
          have HM : Hid (rdNum (L (B r)) = some n) := Lib.hid hm
          have HN : Hid ((k, n) = R) := Lib.hid hst
          have HRL : Hid ((B r).size < 100000000) := Lib.hid (by rw [B_size]; exact hrl)
          clear ha hqr hst hqr2 hm
          go_wp2_with (first | (go_at_call 163; (with_reducible refine (fAfter_some _ _ r _ (by omega) HBN.out HA.out).mono ?_); rintro e w2 ⟨rfl, rfl⟩) | (go_at_call 143; (with_reducible refine (rNumber_some _ n _ HRL.out HM.out).mono ?_); rintro e w3 ⟨rfl, hb3⟩; have hr3 := Lib.hid ((hb3.block _ hwr).trans hrr.out)) | refine wpList_store_row rfl TB (.tmp 4) (.tmp 40) rfl w.heap.size (bCells k n) rfl rfl TB #[.int .i64 0, .int .i64 0] hr3 infoTB rfl (bCells_one _ _) ?_)
          refine bodyPost_ret (results_cell_row rfl _ _ w.heap.size TB (bCells k n) (0, 0) _ rfl (row_set hr3) Tryz.underlying23 rfl infoTB) rfl ⟨?_, below_setRow (below_two hBr.out hb3) (Nat.le_refl _) _⟩
          rw [← HN.out]
    · have hk4 : k = 4 := by have := HSL.out; omega
      have HE : Hid ((0, 0) = R) := Lib.hid (by rw [← HK.out, hk4]; rfl)
      clear hk4
      go_wp2_with (refine wpList_store_row rfl TB (.tmp 4) (.tmp 41) rfl w.heap.size (bCells 0 0) rfl rfl TB #[.int .i64 0, .int .i64 0] hrr infoTB rfl (bCells_one _ _) ?_)
      refine bodyPost_ret (results_cell_row rfl _ _ w.heap.size TB (bCells 0 0) (0, 0) _ rfl (row_set hrr) Tryz.underlying23 rfl infoTB) rfl ⟨?_, below_setRow hBr.out (Nat.le_refl _) _⟩
      rw [← HE.out]; rfl
end Go.Proofs.YtakgfbcmkhcdkaaGreatDoor
namespace Go.Proofs.YtakgfbcmkhcdkaaGreatDoor
set_option linter.all false
open Go.ChangeShapes Go.WideShapes Go.RowKit
/-- Block g holds the cells of a filter. -/
def RB (w : World) (g : Nat) (f : Flt) : Prop := w.heap[g]? = some (.cells f.cells TF (0, 0))
theorem RB.lt {w : World} {g : Nat} {f : Flt} (h : RB w g f) : g < w.heap.size := (Array.getElem?_eq_some_iff.1 h).1
theorem RB.cell {w : World} {g : Nat} {f : Flt} (h : RB w g f) (j : Nat) : w.cell? ⟨g, j, none⟩ = f.cells[j]? := cell_of_row w g j f.cells TF (0, 0) h
theorem RB.free {w : World} {g : Nat} {f : Flt} (h : RB w g f) (j : Nat) : w.frozen? ⟨g, j, none⟩ = false := by unfold RB at h; simp [World.frozen?, h]
theorem RB.set_ {w : World} {g : Nat} {f f' : Flt} (h : RB w g f) (j : Nat) (u : Value) (hf : f.cells.setIfInBounds j u = f'.cells) : RB (w.setCell ⟨g, j, none⟩ u) g f' := by
  unfold RB at *
  rw [← hf]; simp [World.setCell, Array.getElem?_modify, h]
theorem RB.below {w w' : World} {g : Nat} {f : Flt} (h : RB w g f) (hb : Below w.heap.size w w') : RB w' g f := (hb.block g h.lt).trans h
/-- A filter whose masks are the given numbers. -/
def fM (f : Flt) (a b c d e : Nat) : Flt := { f with types := (a : Int), ntypes := (b : Int), colors := (c : Int), ncolors := (d : Int), keys := (e : Int) }
theorem qMask_lt {m i : Nat} (hm : m < 2 ^ 17) (hi : i < 17) : qMask m i < 2 ^ 17 := by
  rw [qMask_or (Nat.lt_of_lt_of_le hm (by decide)) (by omega)]
  exact Nat.or_lt_two_pow hm (Nat.pow_lt_pow_right (by omega) hi)
theorem foldl_range_succ {α : Type} (st : α → Nat → α) (f : α) (k : Nat) : (List.range (k + 1)).foldl st f = st ((List.range k).foldl st f) k := by
  rw [List.range_succ, List.foldl_append]; rfl
theorem beq_app (s : ByteArray) (p : ByteArray) (pl x : Str) (hp : L p = pl) : (s.toList == (p ++ B x).toList) = decide (L s = pl ++ x) := by
  subst hp; rw [L_toList, L_toList, L_append, L_B, Bool.eq_iff_iff]; simp
theorem beq_w (s : ByteArray) (x : Str) : (s.toList == x) = decide (L s = x) := by rw [L_toList, Bool.eq_iff_iff]; simp
/-- The filter that a call hands back, its masks in range; nothing older has turned. -/
def RetFlt (f : Flt) (w : World) (Q : Flt) (e : Ending) (w' : World) : Prop := e = .returned (.agg Q.cells) ∧ Below w.heap.size w w' ∧ ∃ a2 b2 c2 d2 e2, Q = fM f a2 b2 c2 d2 e2 ∧ a2 < 2 ^ 17 ∧ b2 < 2 ^ 17 ∧ c2 < 2 ^ 17 ∧ d2 < 2 ^ 17 ∧ e2 < 2 ^ 17
set_option maxRecDepth 100000 in
set_option maxHeartbeats 2000000 in
theorem fNamed_any (s : ByteArray) (f : Flt) (a b c d e : Nat) (ha : a < 2 ^ 17) (hb : b < 2 ^ 17) (hc : c < 2 ^ 17) (hd : d < 2 ^ 17) (he : e < 2 ^ 17) (hs : s.size < 100000000) (w : World) :
    Calls Tryz.prog 165 #[.agg (fM f a b c d e).cells, .string s] w (RetFlt f w (qNamed (fM f a b c d e) (L s))) := by
  have W0 : RB ((w.alloc (.cells (fM f a b c d e).cells TF)).alloc (.cells zeroF.cells TF)) w.heap.size (fM f a b c d e) := by
    unfold RB; rw [Below.heap_alloc _ _ _ (by simp)]; exact heap_alloc_new w _
  have HZ : Hid (((w.alloc (.cells (fM f a b c d e).cells TF)).alloc (.cells zeroF.cells TF)).heap[w.heap.size + 1]? = some (.cells zeroF.cells TF (0, 0)) ∧ w.heap.size + 1 < ((w.alloc (.cells (fM f a b c d e).cells TF)).alloc (.cells zeroF.cells TF)).heap.size) := Lib.hid ⟨by have := heap_alloc_new (w.alloc (.cells (fM f a b c d e).cells TF)) (.cells zeroF.cells TF); simpa using this, by simp⟩
  have HB1 : Hid (Below w.heap.size w ((w.alloc (.cells (fM f a b c d e).cells TF)).alloc (.cells zeroF.cells TF))) := Lib.hid (((Below.refl _ _).alloc (Nat.le_refl _) _).alloc (by simp) _)
  have HW := Lib.hid W0
  clear W0
  obtain ⟨Q, hQ⟩ : ∃ q, qNamed (fM f a b c d e) (L s) = q := ⟨_, rfl⟩
  rw [hQ]
  have HQ := Lib.hid hQ
  clear hQ
  go_enter Tryz.func165, Tryz.ntmps165
  go_wp2_with fail
  have R0 := HW.out
  obtain ⟨W1, hW1⟩ : ∃ W, (w.alloc (.cells (fM f a b c d e).cells TF)).alloc (.cells zeroF.cells TF) = W := ⟨_, rfl⟩
  rw [hW1] at R0 HZ HB1
  change Code.wp _ _ _ _ ((w.alloc (.cells (fM f a b c d e).cells TF)).alloc (.cells zeroF.cells TF))
  rw [hW1]
  have F0 : Fr w.heap.size w.heap.size W1 W1 := Fr.refl _ _ _
  clear hW1 HW
  go_loopw [5] (fun i wr => ∃ k x y : Nat, k ≤ 6 ∧ x < 2 ^ 17 ∧ y < 2 ^ 17 ∧ i = .int .i64 k ∧ RB wr w.heap.size (fM f x y c d e) ∧ Fr w.heap.size w.heap.size W1 wr ∧ Hid ((List.range k).foldl (stType (L s)) (fM f a b c d e) = fM f x y c d e)) (fun i _ => 6 - (intOf i).toNat)
  case atStart => exact ⟨0, a, b, by omega, ha, hb, rfl, R0, F0, rfl⟩
  case round =>
    clear R0 F0
    obtain ⟨k, x, y, hk, hx, hy, rfl, R1, F1, HK⟩ := hrel
    have hgw := R1.lt
    have hgl := Nat.le_of_lt hgw
    by_cases hlt : k < 6
    · have hst : (List.range (k + 1)).foldl (stType (L s)) (fM f a b c d e) = stType (L s) (fM f x y c d e) k := by rw [foldl_range_succ, HK.out]
      have hxl := wd_len (T := typeT) (K := 20) (by decide) k
      have qx := qMask_lt (i := k) hx (by omega)
      have hx31 : x < 2 ^ 31 := Nat.lt_of_lt_of_le hx (by decide)
      have qy := qMask_lt (i := k) hy (by omega)
      have hy31 : y < 2 ^ 31 := Nat.lt_of_lt_of_le hy (by decide)
      have hpx : (⟨#[110, 111, 110, 45]⟩ : ByteArray).size + (B (wd typeT k)).size ≤ 9223372036854775807 := by rw [B_size]; show 4 + _ ≤ _; omega
      by_cases hX : L s = wd typeT k
      · have t1 : (s.toList == wd typeT k) = true := by rw [beq_w]; exact decide_eq_true hX
        have HX := Lib.hid hX; clear hX
        by_cases hY : L s = nonW ++ wd typeT k
        · have t2 : (s.toList == (⟨#[110, 111, 110, 45]⟩ ++ B (wd typeT k)).toList) = true := by rw [beq_app s _ nonW _ rfl]; exact decide_eq_true hY
          have HN : Hid ((List.range (k + 1)).foldl (stType (L s)) (fM f a b c d e) = fM f (qMask x k) (qMask y k) c d e) := Lib.hid (by rw [hst]; simp only [stType, if_pos HX.out, if_pos hY]; try rfl)
          clear hst hY
          go_wp2_with fail
          refine (fTypeWord_any k hlt _).mono ?_
          rintro e0 w2 ⟨rfl, hb2⟩
          have R2 := R1.below hb2
          have F2 := F1.trans (Fr.of hb2 hgl)
          have cA : World.cell? _ ⟨w.heap.size, 3, none⟩ = some (.int .i64 ((x : Nat) : Int)) := R2.cell 3
          have zA := R2.free 3
          dsimp only
          go_wp2_with (go_at_call 187; (with_reducible refine (fMask_any x k _ hx31 (by omega)).mono ?_); rintro e0 wm ⟨rfl, rfl⟩)
          have R3 := R2.set_ 3 (.int .i64 ((qMask x k : Nat) : Int)) (f' := fM f (qMask x k) y c d e) rfl
          have F3 := F2.setCell (o := 3) (Nat.le_refl _) (.int .i64 ((qMask x k : Nat) : Int))
          have hg3 := Nat.le_of_lt R3.lt
          refine (fTypeWord_any k hlt _).mono ?_
          rintro e0 w4 ⟨rfl, hb4⟩
          have R4 := R3.below hb4
          have F4 := F3.trans (Fr.of hb4 hg3)
          clear cA zA
          have cB : World.cell? _ ⟨w.heap.size, 4, none⟩ = some (.int .i64 ((y : Nat) : Int)) := R4.cell 4
          have zB := R4.free 4
          dsimp only
          go_wp2_with (go_at_call 187; (with_reducible refine (fMask_any y k _ hy31 (by omega)).mono ?_); rintro e0 wm ⟨rfl, rfl⟩)
          have R5 := R4.set_ 4 (.int .i64 ((qMask y k : Nat) : Int)) (f' := fM f (qMask x k) (qMask y k) c d e) rfl
          have F5 := F4.setCell (o := 4) (Nat.le_refl _) (.int .i64 ((qMask y k : Nat) : Int))
          clear cB zB R4 F4
          go_roundw
          case rel => exact ⟨k + 1, qMask x k, qMask y k, by omega, qx, qy, by go_num, R5, F5, HN⟩
          case measure => simp [intOf]; omega
        · have t2 : (s.toList == (⟨#[110, 111, 110, 45]⟩ ++ B (wd typeT k)).toList) = false := by rw [beq_app s _ nonW _ rfl]; exact decide_eq_false hY
          have HN : Hid ((List.range (k + 1)).foldl (stType (L s)) (fM f a b c d e) = fM f (qMask x k) y c d e) := Lib.hid (by rw [hst]; simp only [stType, if_pos HX.out, if_neg hY]; try rfl)
          clear hst hY
          go_wp2_with fail
          refine (fTypeWord_any k hlt _).mono ?_
          rintro e0 w2 ⟨rfl, hb2⟩
          have R2 := R1.below hb2
          have F2 := F1.trans (Fr.of hb2 hgl)
          have cA : World.cell? _ ⟨w.heap.size, 3, none⟩ = some (.int .i64 ((x : Nat) : Int)) := R2.cell 3
          have zA := R2.free 3
          dsimp only
          go_wp2_with (go_at_call 187; (with_reducible refine (fMask_any x k _ hx31 (by omega)).mono ?_); rintro e0 wm ⟨rfl, rfl⟩)
          have R3 := R2.set_ 3 (.int .i64 ((qMask x k : Nat) : Int)) (f' := fM f (qMask x k) y c d e) rfl
          have F3 := F2.setCell (o := 3) (Nat.le_refl _) (.int .i64 ((qMask x k : Nat) : Int))
          have hg3 := Nat.le_of_lt R3.lt
          refine (fTypeWord_any k hlt _).mono ?_
          rintro e0 w4 ⟨rfl, hb4⟩
          have R4 := R3.below hb4
          have F4 := F3.trans (Fr.of hb4 hg3)
          clear cA zA
          have cB : World.cell? _ ⟨w.heap.size, 4, none⟩ = some (.int .i64 ((y : Nat) : Int)) := R4.cell 4
          have zB := R4.free 4
          dsimp only
          go_wp2_with (go_at_call 187; (with_reducible refine (fMask_any y k _ hy31 (by omega)).mono ?_); rintro e0 wm ⟨rfl, rfl⟩)
          have R5 := R4
          have F5 := F4
          clear cB zB R4 F4
          go_roundw
          case rel => exact ⟨k + 1, qMask x k, y, by omega, qx, hy, by go_num, R5, F5, HN⟩
          case measure => simp [intOf]; omega
      · have t1 : (s.toList == wd typeT k) = false := by rw [beq_w]; exact decide_eq_false hX
        have HX := Lib.hid hX; clear hX
        by_cases hY : L s = nonW ++ wd typeT k
        · have t2 : (s.toList == (⟨#[110, 111, 110, 45]⟩ ++ B (wd typeT k)).toList) = true := by rw [beq_app s _ nonW _ rfl]; exact decide_eq_true hY
          have HN : Hid ((List.range (k + 1)).foldl (stType (L s)) (fM f a b c d e) = fM f x (qMask y k) c d e) := Lib.hid (by rw [hst]; simp only [stType, if_neg HX.out, if_pos hY]; try rfl)
          clear hst hY
          go_wp2_with fail
          refine (fTypeWord_any k hlt _).mono ?_
          rintro e0 w2 ⟨rfl, hb2⟩
          have R2 := R1.below hb2
          have F2 := F1.trans (Fr.of hb2 hgl)
          have cA : World.cell? _ ⟨w.heap.size, 3, none⟩ = some (.int .i64 ((x : Nat) : Int)) := R2.cell 3
          have zA := R2.free 3
          dsimp only
          go_wp2_with (go_at_call 187; (with_reducible refine (fMask_any x k _ hx31 (by omega)).mono ?_); rintro e0 wm ⟨rfl, rfl⟩)
          have hg3 := Nat.le_of_lt R2.lt
          refine (fTypeWord_any k hlt _).mono ?_
          rintro e0 w4 ⟨rfl, hb4⟩
          have R4 := R2.below hb4
          have F4 := F2.trans (Fr.of hb4 hg3)
          clear cA zA
          have cB : World.cell? _ ⟨w.heap.size, 4, none⟩ = some (.int .i64 ((y : Nat) : Int)) := R4.cell 4
          have zB := R4.free 4
          dsimp only
          go_wp2_with (go_at_call 187; (with_reducible refine (fMask_any y k _ hy31 (by omega)).mono ?_); rintro e0 wm ⟨rfl, rfl⟩)
          have R5 := R4.set_ 4 (.int .i64 ((qMask y k : Nat) : Int)) (f' := fM f x (qMask y k) c d e) rfl
          have F5 := F4.setCell (o := 4) (Nat.le_refl _) (.int .i64 ((qMask y k : Nat) : Int))
          clear cB zB R4 F4
          go_roundw
          case rel => exact ⟨k + 1, x, qMask y k, by omega, hx, qy, by go_num, R5, F5, HN⟩
          case measure => simp [intOf]; omega
        · have t2 : (s.toList == (⟨#[110, 111, 110, 45]⟩ ++ B (wd typeT k)).toList) = false := by rw [beq_app s _ nonW _ rfl]; exact decide_eq_false hY
          have HN : Hid ((List.range (k + 1)).foldl (stType (L s)) (fM f a b c d e) = fM f x y c d e) := Lib.hid (by rw [hst]; simp only [stType, if_neg HX.out, if_neg hY]; try rfl)
          clear hst hY
          go_wp2_with fail
          refine (fTypeWord_any k hlt _).mono ?_
          rintro e0 w2 ⟨rfl, hb2⟩
          have R2 := R1.below hb2
          have F2 := F1.trans (Fr.of hb2 hgl)
          have cA : World.cell? _ ⟨w.heap.size, 3, none⟩ = some (.int .i64 ((x : Nat) : Int)) := R2.cell 3
          have zA := R2.free 3
          dsimp only
          go_wp2_with (go_at_call 187; (with_reducible refine (fMask_any x k _ hx31 (by omega)).mono ?_); rintro e0 wm ⟨rfl, rfl⟩)
          have hg3 := Nat.le_of_lt R2.lt
          refine (fTypeWord_any k hlt _).mono ?_
          rintro e0 w4 ⟨rfl, hb4⟩
          have R4 := R2.below hb4
          have F4 := F2.trans (Fr.of hb4 hg3)
          clear cA zA
          have cB : World.cell? _ ⟨w.heap.size, 4, none⟩ = some (.int .i64 ((y : Nat) : Int)) := R4.cell 4
          have zB := R4.free 4
          dsimp only
          go_wp2_with (go_at_call 187; (with_reducible refine (fMask_any y k _ hy31 (by omega)).mono ?_); rintro e0 wm ⟨rfl, rfl⟩)
          have R5 := R4
          have F5 := F4
          clear cB zB R4 F4
          go_roundw
          case rel => exact ⟨k + 1, x, y, by omega, hx, hy, by go_num, R5, F5, HN⟩
          case measure => simp [intOf]; omega
    · have HKN : Hid (k = 6) := Lib.hid (by omega)
      have HK2 : Hid ((List.range 6).foldl (stType (L s)) (fM f a b c d e) = fM f x y c d e) := Lib.hid (by rw [← HKN.out]; exact HK.out)
      have R0 := R1; have F0 := F1
      have ha2 := hx; have hb2 := hy
      clear R1 F1 HK HKN hx hy hgl hgw ha hb
      obtain ⟨a1, ea⟩ : ∃ z, x = z := ⟨_, rfl⟩
      obtain ⟨b1, eb⟩ : ∃ z, y = z := ⟨_, rfl⟩
      subst ea; subst eb
      go_wp2_with fail
      go_loopw [6] (fun i wr => ∃ k u v : Nat, k ≤ 5 ∧ u < 2 ^ 17 ∧ v < 2 ^ 17 ∧ i = .int .i64 k ∧ RB wr w.heap.size (fM f x y u v e) ∧ Fr w.heap.size w.heap.size W1 wr ∧ Hid ((List.range k).foldl (stColor (L s)) (fM f x y c d e) = fM f x y u v e)) (fun i _ => 5 - (intOf i).toNat)
      case atStart => exact ⟨0, c, d, by omega, hc, hd, rfl, R0, F0, rfl⟩
      case round =>
        clear R0 F0
        obtain ⟨k, u, v, hk, hx, hy, rfl, R1, F1, HK⟩ := hrel
        have hgw := R1.lt
        have hgl := Nat.le_of_lt hgw
        by_cases hlt : k < 5
        · have hst : (List.range (k + 1)).foldl (stColor (L s)) (fM f x y c d e) = stColor (L s) (fM f x y u v e) k := by rw [foldl_range_succ, HK.out]
          have hxl := wd_len (T := colorT) (K := 20) (by decide) k
          have qx := qMask_lt (i := k) hx (by omega)
          have hx31 : u < 2 ^ 31 := Nat.lt_of_lt_of_le hx (by decide)
          have qy := qMask_lt (i := k) hy (by omega)
          have hy31 : v < 2 ^ 31 := Nat.lt_of_lt_of_le hy (by decide)
          have hpx : (⟨#[110, 111, 110, 45]⟩ : ByteArray).size + (B (wd colorT k)).size ≤ 9223372036854775807 := by rw [B_size]; show 4 + _ ≤ _; omega
          by_cases hX : L s = wd colorT k
          · have t1 : (s.toList == wd colorT k) = true := by rw [beq_w]; exact decide_eq_true hX
            have HX := Lib.hid hX; clear hX
            by_cases hY : L s = nonW ++ wd colorT k
            · have t2 : (s.toList == (⟨#[110, 111, 110, 45]⟩ ++ B (wd colorT k)).toList) = true := by rw [beq_app s _ nonW _ rfl]; exact decide_eq_true hY
              have HN : Hid ((List.range (k + 1)).foldl (stColor (L s)) (fM f x y c d e) = fM f x y (qMask u k) (qMask v k) e) := Lib.hid (by rw [hst]; simp only [stColor, if_pos HX.out, if_pos hY]; try rfl)
              clear hst hY
              go_wp2_with fail
              refine (fColor_any k hlt _).mono ?_
              rintro e0 w2 ⟨rfl, rfl⟩
              have R2 := R1
              have F2 := F1
              have cA : World.cell? _ ⟨w.heap.size, 5, none⟩ = some (.int .i64 ((u : Nat) : Int)) := R2.cell 5
              have zA := R2.free 5
              dsimp only
              go_wp2_with (go_at_call 187; (with_reducible refine (fMask_any u k _ hx31 (by omega)).mono ?_); rintro e0 wm ⟨rfl, rfl⟩)
              have R3 := R2.set_ 5 (.int .i64 ((qMask u k : Nat) : Int)) (f' := fM f x y (qMask u k) v e) rfl
              have F3 := F2.setCell (o := 5) (Nat.le_refl _) (.int .i64 ((qMask u k : Nat) : Int))
              have hg3 := Nat.le_of_lt R3.lt
              refine (fColor_any k hlt _).mono ?_
              rintro e0 w4 ⟨rfl, rfl⟩
              have R4 := R3
              have F4 := F3
              clear cA zA
              have cB : World.cell? _ ⟨w.heap.size, 6, none⟩ = some (.int .i64 ((v : Nat) : Int)) := R4.cell 6
              have zB := R4.free 6
              dsimp only
              go_wp2_with (go_at_call 187; (with_reducible refine (fMask_any v k _ hy31 (by omega)).mono ?_); rintro e0 wm ⟨rfl, rfl⟩)
              have R5 := R4.set_ 6 (.int .i64 ((qMask v k : Nat) : Int)) (f' := fM f x y (qMask u k) (qMask v k) e) rfl
              have F5 := F4.setCell (o := 6) (Nat.le_refl _) (.int .i64 ((qMask v k : Nat) : Int))
              clear cB zB R4 F4
              go_roundw
              case rel => exact ⟨k + 1, qMask u k, qMask v k, by omega, qx, qy, by go_num, R5, F5, HN⟩
              case measure => simp [intOf]; omega
            · have t2 : (s.toList == (⟨#[110, 111, 110, 45]⟩ ++ B (wd colorT k)).toList) = false := by rw [beq_app s _ nonW _ rfl]; exact decide_eq_false hY
              have HN : Hid ((List.range (k + 1)).foldl (stColor (L s)) (fM f x y c d e) = fM f x y (qMask u k) v e) := Lib.hid (by rw [hst]; simp only [stColor, if_pos HX.out, if_neg hY]; try rfl)
              clear hst hY
              go_wp2_with fail
              refine (fColor_any k hlt _).mono ?_
              rintro e0 w2 ⟨rfl, rfl⟩
              have R2 := R1
              have F2 := F1
              have cA : World.cell? _ ⟨w.heap.size, 5, none⟩ = some (.int .i64 ((u : Nat) : Int)) := R2.cell 5
              have zA := R2.free 5
              dsimp only
              go_wp2_with (go_at_call 187; (with_reducible refine (fMask_any u k _ hx31 (by omega)).mono ?_); rintro e0 wm ⟨rfl, rfl⟩)
              have R3 := R2.set_ 5 (.int .i64 ((qMask u k : Nat) : Int)) (f' := fM f x y (qMask u k) v e) rfl
              have F3 := F2.setCell (o := 5) (Nat.le_refl _) (.int .i64 ((qMask u k : Nat) : Int))
              have hg3 := Nat.le_of_lt R3.lt
              refine (fColor_any k hlt _).mono ?_
              rintro e0 w4 ⟨rfl, rfl⟩
              have R4 := R3
              have F4 := F3
              clear cA zA
              have cB : World.cell? _ ⟨w.heap.size, 6, none⟩ = some (.int .i64 ((v : Nat) : Int)) := R4.cell 6
              have zB := R4.free 6
              dsimp only
              go_wp2_with (go_at_call 187; (with_reducible refine (fMask_any v k _ hy31 (by omega)).mono ?_); rintro e0 wm ⟨rfl, rfl⟩)
              have R5 := R4
              have F5 := F4
              clear cB zB R4 F4
              go_roundw
              case rel => exact ⟨k + 1, qMask u k, v, by omega, qx, hy, by go_num, R5, F5, HN⟩
              case measure => simp [intOf]; omega
          · have t1 : (s.toList == wd colorT k) = false := by rw [beq_w]; exact decide_eq_false hX
            have HX := Lib.hid hX; clear hX
            by_cases hY : L s = nonW ++ wd colorT k
            · have t2 : (s.toList == (⟨#[110, 111, 110, 45]⟩ ++ B (wd colorT k)).toList) = true := by rw [beq_app s _ nonW _ rfl]; exact decide_eq_true hY
              have HN : Hid ((List.range (k + 1)).foldl (stColor (L s)) (fM f x y c d e) = fM f x y u (qMask v k) e) := Lib.hid (by rw [hst]; simp only [stColor, if_neg HX.out, if_pos hY]; try rfl)
              clear hst hY
              go_wp2_with fail
              refine (fColor_any k hlt _).mono ?_
              rintro e0 w2 ⟨rfl, rfl⟩
              have R2 := R1
              have F2 := F1
              have cA : World.cell? _ ⟨w.heap.size, 5, none⟩ = some (.int .i64 ((u : Nat) : Int)) := R2.cell 5
              have zA := R2.free 5
              dsimp only
              go_wp2_with (go_at_call 187; (with_reducible refine (fMask_any u k _ hx31 (by omega)).mono ?_); rintro e0 wm ⟨rfl, rfl⟩)
              have hg3 := Nat.le_of_lt R2.lt
              refine (fColor_any k hlt _).mono ?_
              rintro e0 w4 ⟨rfl, rfl⟩
              have R4 := R2
              have F4 := F2
              clear cA zA
              have cB : World.cell? _ ⟨w.heap.size, 6, none⟩ = some (.int .i64 ((v : Nat) : Int)) := R4.cell 6
              have zB := R4.free 6
              dsimp only
              go_wp2_with (go_at_call 187; (with_reducible refine (fMask_any v k _ hy31 (by omega)).mono ?_); rintro e0 wm ⟨rfl, rfl⟩)
              have R5 := R4.set_ 6 (.int .i64 ((qMask v k : Nat) : Int)) (f' := fM f x y u (qMask v k) e) rfl
              have F5 := F4.setCell (o := 6) (Nat.le_refl _) (.int .i64 ((qMask v k : Nat) : Int))
              clear cB zB R4 F4
              go_roundw
              case rel => exact ⟨k + 1, u, qMask v k, by omega, hx, qy, by go_num, R5, F5, HN⟩
              case measure => simp [intOf]; omega
            · have t2 : (s.toList == (⟨#[110, 111, 110, 45]⟩ ++ B (wd colorT k)).toList) = false := by rw [beq_app s _ nonW _ rfl]; exact decide_eq_false hY
              have HN : Hid ((List.range (k + 1)).foldl (stColor (L s)) (fM f x y c d e) = fM f x y u v e) := Lib.hid (by rw [hst]; simp only [stColor, if_neg HX.out, if_neg hY]; try rfl)
              clear hst hY
              go_wp2_with fail
              refine (fColor_any k hlt _).mono ?_
              rintro e0 w2 ⟨rfl, rfl⟩
              have R2 := R1
              have F2 := F1
              have cA : World.cell? _ ⟨w.heap.size, 5, none⟩ = some (.int .i64 ((u : Nat) : Int)) := R2.cell 5
              have zA := R2.free 5
              dsimp only
              go_wp2_with (go_at_call 187; (with_reducible refine (fMask_any u k _ hx31 (by omega)).mono ?_); rintro e0 wm ⟨rfl, rfl⟩)
              have hg3 := Nat.le_of_lt R2.lt
              refine (fColor_any k hlt _).mono ?_
              rintro e0 w4 ⟨rfl, rfl⟩
              have R4 := R2
              have F4 := F2
              clear cA zA
              have cB : World.cell? _ ⟨w.heap.size, 6, none⟩ = some (.int .i64 ((v : Nat) : Int)) := R4.cell 6
              have zB := R4.free 6
              dsimp only
              go_wp2_with (go_at_call 187; (with_reducible refine (fMask_any v k _ hy31 (by omega)).mono ?_); rintro e0 wm ⟨rfl, rfl⟩)
              have R5 := R4
              have F5 := F4
              clear cB zB R4 F4
              go_roundw
              case rel => exact ⟨k + 1, u, v, by omega, hx, hy, by go_num, R5, F5, HN⟩
              case measure => simp [intOf]; omega
        · have HKN : Hid (k = 5) := Lib.hid (by omega)
          have HK3 : Hid ((List.range 5).foldl (stColor (L s)) (fM f x y c d e) = fM f x y u v e) := Lib.hid (by rw [← HKN.out]; exact HK.out)
          have R0 := R1; have F0 := F1
          have hc2 := hx; have hd2 := hy
          clear R1 F1 HK HKN hx hy hgl hgw hc hd
          go_wp2_with fail
          go_loopw [7] (fun i wr => ∃ k t : Nat, k ≤ 17 ∧ t < 2 ^ 17 ∧ i = .int .i64 k ∧ RB wr w.heap.size (fM f x y u v t) ∧ Fr w.heap.size w.heap.size W1 wr ∧ Hid ((List.range k).foldl (stKey (L s)) (fM f x y u v e) = fM f x y u v t)) (fun i _ => 17 - (intOf i).toNat)
          case atStart => exact ⟨0, e, by omega, he, rfl, R0, F0, rfl⟩
          case round =>
            clear R0 F0
            obtain ⟨k, t, hk, hx, rfl, R1, F1, HK⟩ := hrel
            have hgw := R1.lt
            have hgl := Nat.le_of_lt hgw
            by_cases hlt : k < 17
            · have hst : (List.range (k + 1)).foldl (stKey (L s)) (fM f x y u v e) = stKey (L s) (fM f x y u v t) k := by rw [foldl_range_succ, HK.out]
              have hxl := wd_len (T := kwT) (K := 20) (by decide) k
              have qx := qMask_lt (i := k) hx (by omega)
              have hx31 : t < 2 ^ 31 := Nat.lt_of_lt_of_le hx (by decide)
              have hpx : (⟨#[119, 105, 116, 104, 58]⟩ : ByteArray).size + (B (wd kwT k)).size ≤ 9223372036854775807 := by rw [B_size]; show 5 + _ ≤ _; omega
              by_cases hY : L s = withW ++ wd kwT k
              · have t2 : (s.toList == (⟨#[119, 105, 116, 104, 58]⟩ ++ B (wd kwT k)).toList) = true := by rw [beq_app s _ withW _ rfl]; exact decide_eq_true hY
                have HN : Hid ((List.range (k + 1)).foldl (stKey (L s)) (fM f x y u v e) = fM f x y u v (qMask t k)) := Lib.hid (by rw [hst]; simp only [stKey, if_pos hY]; try rfl)
                clear hst hY
                go_wp2_with fail
                refine (fKey_any k hlt _).mono ?_
                rintro e0 w4 ⟨rfl, hb4⟩
                have R4 := R1.below hb4
                have F4 := F1.trans (Fr.of hb4 hgl)
                have cB : World.cell? _ ⟨w.heap.size, 8, none⟩ = some (.int .i64 ((t : Nat) : Int)) := R4.cell 8
                have zB := R4.free 8
                dsimp only
                go_wp2_with (go_at_call 187; (with_reducible refine (fMask_any t k _ hx31 (by omega)).mono ?_); rintro e0 wm ⟨rfl, rfl⟩)
                have R5 := R4.set_ 8 (.int .i64 ((qMask t k : Nat) : Int)) (f' := fM f x y u v (qMask t k)) rfl
                have F5 := F4.setCell (o := 8) (Nat.le_refl _) (.int .i64 ((qMask t k : Nat) : Int))
                clear cB zB R4 F4
                go_roundw
                case rel => exact ⟨k + 1, qMask t k, by omega, qx, by go_num, R5, F5, HN⟩
                case measure => simp [intOf]; omega
              · have t2 : (s.toList == (⟨#[119, 105, 116, 104, 58]⟩ ++ B (wd kwT k)).toList) = false := by rw [beq_app s _ withW _ rfl]; exact decide_eq_false hY
                have HN : Hid ((List.range (k + 1)).foldl (stKey (L s)) (fM f x y u v e) = fM f x y u v t) := Lib.hid (by rw [hst]; simp only [stKey, if_neg hY]; try rfl)
                clear hst hY
                go_wp2_with fail
                refine (fKey_any k hlt _).mono ?_
                rintro e0 w4 ⟨rfl, hb4⟩
                have R4 := R1.below hb4
                have F4 := F1.trans (Fr.of hb4 hgl)
                have cB : World.cell? _ ⟨w.heap.size, 8, none⟩ = some (.int .i64 ((t : Nat) : Int)) := R4.cell 8
                have zB := R4.free 8
                dsimp only
                go_wp2_with (go_at_call 187; (with_reducible refine (fMask_any t k _ hx31 (by omega)).mono ?_); rintro e0 wm ⟨rfl, rfl⟩)
                have R5 := R4
                have F5 := F4
                clear cB zB R4 F4
                go_roundw
                case rel => exact ⟨k + 1, t, by omega, hx, by go_num, R5, F5, HN⟩
                case measure => simp [intOf]; omega
            · have HKN : Hid (k = 17) := Lib.hid (by omega)
              have HK4 : Hid ((List.range 17).foldl (stKey (L s)) (fM f x y u v e) = fM f x y u v t) := Lib.hid (by rw [← HKN.out]; exact HK.out)
              have HQQ : Hid (Q = fM f x y u v t) := Lib.hid (by rw [← HQ.out]; unfold qNamed; rw [HK2.out, HK3.out, HK4.out])
              have hrr : Hid (wr.heap[w.heap.size + 1]? = some (.cells zeroF.cells TF (0, 0))) := Lib.hid ((F1.keep _ HZ.out.2 (by omega)).trans HZ.out.1)
              have R1h := Lib.hid R1
              have hbW : Below w.heap.size w wr := HB1.out.trans F1.bel
              clear HQ HK hgl
              go_wp2_with (first | refine wpList_load_row rfl TF (.tmp 2) rfl w.heap.size rfl TF (fM f x y u v t).cells (0, 0) _ R1h.out Tryz.underlying25 rfl infoTF ?_ | refine wpList_store_row rfl TF (.tmp 4) (.tmp 68) rfl (w.heap.size + 1) (fM f x y u v t).cells rfl rfl TF zeroF.cells hrr.out infoTF rfl (cells_one _) ?_)
              exact bodyPost_ret (results_cell_row rfl _ _ (w.heap.size + 1) TF (fM f x y u v t).cells (0, 0) _ rfl (row_set hrr.out) Tryz.underlying25 rfl infoTF) rfl (by rw [HQQ.out]; exact ⟨rfl, below_setRow hbW (by omega) _, x, y, u, v, t, rfl, ha2, hb2, hc2, hd2, hx⟩)
end Go.Proofs.YtakgfbcmkhcdkaaGreatDoor
namespace Go.Proofs.YtakgfbcmkhcdkaaGreatDoor
set_option linter.all false
open Go.ChangeShapes Go.WideShapes Go.RowKit
theorem fRead_lit (s name : ByteArray) (nl : Str) (hnl : L name = nl) (hs : s.size < 100000000) (hn : name.size ≤ 100) (w : World) (k : Nat) (n : Int) (h : qRead (L s) nl = (k, n)) :
    Calls Tryz.prog 164 #[.string s, .string name] w fun e w' => e = .returned (.agg #[.int .i64 k, .int .i64 n]) ∧ Below w.heap.size w w' :=
  (fRead_any s name nl hnl hs hn w).mono fun e w' ⟨he, hb⟩ => ⟨by rw [he, h]; rfl, hb⟩
theorem run_fieldB (k n : Int) (wx : World) : (Instr.field TB (.agg #[.int .i64 k, .int .i64 n]) 0).run Tryz.prog wx = .ok (.int .i64 k) wx := by kernel_rfl
theorem RB.set2 {w : World} {g : Nat} {f f' : Flt} (h : RB w g f) (j : Nat) (u v : Value) (hf : (f.cells.setIfInBounds j u).setIfInBounds (j + 1) v = f'.cells) : RB ((w.setCell ⟨g, j, none⟩ u).setCell ⟨g, j + 1, none⟩ v) g f' := by
  unfold RB at *
  rw [← hf]; simp [World.setCell, Array.getElem?_modify, h]
def selZ (z : Nat) (f : Flt) : Flt := if 0 < z then { f with zone := (z : Int) } else f
def selW (z : Nat) (f : Flt) : Flt := if 0 < z then { f with who := (z : Int) } else f
def selS (z : Nat) (f : Flt) : Flt := if 0 < z then { f with self := (z : Int) } else f
def selT (z : Nat) (f : Flt) : Flt := if 0 < z then { f with tap := (z : Int) } else f
def selSub (b : Bool) (t : Str) (f : Flt) : Flt := if b = true then { f with sub := B t } else f
theorem fAfter_opt (s b : ByteArray) (pl : Str) (hpl : L b = pl) (o : Option Str) (w : World) (hs : s.size < 1000000000) (hb : b.size < 1000000000) (t : Str) (p : Bool) (h : Hid (qAfter (L s) pl = o ∧ o.getD [] = t ∧ o.isSome = p)) :
    Calls Tryz.prog 163 #[.string s, .string b] w fun e w' => e = .returned (.tuple #[.string (B t), .bool p]) ∧ w = w' :=
  (fAfter_any s b w hs hb).mono fun e w' h' => ⟨by
    obtain ⟨h1, h2, h3⟩ := h.out
    rw [h'.1, hpl, h1, ← h2, ← h3]; cases o <;> rfl, h'.2⟩
def selP (k : Nat) (n : Int) (f : Flt) : Flt := if 0 < k then { f with pk := (k : Int), pn := n } else f
def selTo (k : Nat) (n : Int) (f : Flt) : Flt := if 0 < k then { f with tk := (k : Int), tn := n } else f
def selV (k : Nat) (n : Int) (f : Flt) : Flt := if 0 < k then { f with vk := (k : Int), vn := n } else f
theorem qSet_sel (f : Flt) (a b c d e zo wh se ta : Nat) (su : Option Str) (p t v : Nat × Int) : qSet (fM f a b c d e) zo wh se ta su p t v = fM (selV v.1 v.2 (selTo t.1 t.2 (selP p.1 p.2 (selSub su.isSome (su.getD []) (selT ta (selS se (selW wh (selZ zo f)))))))) a b c d e := by
  unfold qSet selV selTo selP selT selS selW selZ
  cases su <;> by_cases h1 : 0 < zo <;> by_cases h2 : 0 < wh <;> by_cases h3 : 0 < se <;> by_cases h4 : 0 < ta <;> by_cases h5 : 0 < p.1 <;> by_cases h6 : 0 < t.1 <;> by_cases h7 : 0 < v.1 <;> simp only [h1, h2, h3, h4, h5, h6, h7, if_true, if_false, selSub, fM, Option.isSome_none, Option.isSome_some, Option.getD_some, Bool.false_eq_true]
set_option maxRecDepth 100000 in
set_option maxHeartbeats 4000000 in
theorem fWord_at (s : ByteArray) (f0 : Flt) (a b c d e : Nat) (ha : a < 2 ^ 17) (hb : b < 2 ^ 17) (hc : c < 2 ^ 17) (hd : d < 2 ^ 17) (he : e < 2 ^ 17) (hs : s.size < 100000000) (w : World)
    (zo wh se ta : Nat) (so : Option Str) (st : Str) (sb : Bool) (pk : Nat) (pn : Int) (tk : Nat) (tn : Int) (vk : Nat) (vn : Int)
    (Hzo : Hid (qIndex zoneT (L s) = zo)) (Hwh : Hid (qIndex whoT (L s) = wh)) (Hse : Hid (qIndex selfT (L s) = se)) (Hta : Hid (qIndex tapT (L s) = ta)) (Hsu : Hid (qAfter (L s) subW = so ∧ so.getD [] = st ∧ so.isSome = sb))
    (Hp : Hid (qRead (L s) powerW = (pk, pn))) (Ht : Hid (qRead (L s) toughW = (tk, tn))) (Hv : Hid (qRead (L s) valueW = (vk, vn)))
    (Q : Flt) (HQ : Hid (qNamed (fM (selV vk vn (selTo tk tn (selP pk pn (selSub sb st (selT ta (selS se (selW wh (selZ zo f0)))))))) a b c d e) (L s) = Q)) :
    Calls Tryz.prog 142 #[.agg (fM f0 a b c d e).cells, .string s] w (RetFlt (selV vk vn (selTo tk tn (selP pk pn (selSub sb st (selT ta (selS se (selW wh (selZ zo f0)))))))) w Q) := by
  have W0 : RB ((w.alloc (.cells (fM f0 a b c d e).cells TF)).alloc (.cells zeroF.cells TF)) w.heap.size (fM f0 a b c d e) := by
    unfold RB; rw [Below.heap_alloc _ _ _ (by simp)]; exact heap_alloc_new w _
  have HZ : Hid (((w.alloc (.cells (fM f0 a b c d e).cells TF)).alloc (.cells zeroF.cells TF)).heap[w.heap.size + 1]? = some (.cells zeroF.cells TF (0, 0)) ∧ w.heap.size + 1 < ((w.alloc (.cells (fM f0 a b c d e).cells TF)).alloc (.cells zeroF.cells TF)).heap.size) := Lib.hid ⟨by have := heap_alloc_new (w.alloc (.cells (fM f0 a b c d e).cells TF)) (.cells zeroF.cells TF); simpa using this, by simp⟩
  have HB1 : Hid (Below w.heap.size w ((w.alloc (.cells (fM f0 a b c d e).cells TF)).alloc (.cells zeroF.cells TF))) := Lib.hid (((Below.refl _ _).alloc (Nat.le_refl _) _).alloc (by simp) _)
  have HW := Lib.hid W0
  clear W0
  go_enter Tryz.func142, Tryz.ntmps142
  go_upto_region 1 with fail
  have R1 := HW.out
  obtain ⟨W1, hW1⟩ : ∃ W, (w.alloc (.cells (fM f0 a b c d e).cells TF)).alloc (.cells zeroF.cells TF) = W := ⟨_, rfl⟩
  rw [hW1] at R1 HZ HB1
  change Code.wp _ _ _ _ ((w.alloc (.cells (fM f0 a b c d e).cells TF)).alloc (.cells zeroF.cells TF))
  rw [hW1]
  have F1 : Fr w.heap.size w.heap.size W1 W1 := Fr.refl _ _ _
  clear hW1 HW
  have hfb := fun (k n : Int) (wx : World) => run_fieldB k n wx
  go_upto_if 10 with (first | (go_at_call 89; (with_reducible refine (fZones_any _).mono ?_); rintro e0 wa ⟨A, cc, rfl, ht, hba⟩) | (go_at_call 162; (with_reducible refine (fIndex_any zoneT _ _ _ s _ ht (by decide) (by decide)).mono ?_); rw [Hzo.out]; rintro e0 wb ⟨rfl, rfl⟩))
  have R2 := R1.below hba
  have F2 := F1.trans (Fr.of hba (Nat.le_of_lt R1.lt))
  clear R1 F1 hba ht
  go_cut [] (fun wc => ∃ F, RB wc w.heap.size (fM F a b c d e) ∧ Fr w.heap.size w.heap.size W1 wc ∧ Hid (F = selZ zo f0))
  case first =>
    go_wp2_with (first | (go_at_call 89; (with_reducible refine (fZones_any _).mono ?_); rintro e0 wa2 ⟨A, cc, rfl, ht2, hba2⟩) | (go_at_call 162; (with_reducible refine (fIndex_any zoneT _ _ _ s _ ht2 (by decide) (by decide)).mono ?_); rw [Hzo.out]; rintro e0 wb ⟨rfl, rfl⟩; have R3 := R2.below hba2; have c3 : World.cell? _ ⟨w.heap.size, 0, none⟩ = some (.int .i64 f0.zone) := R3.cell 0; have z3 := R3.free 0))
    all_goals go_meet
    all_goals first
      | exact ⟨_, RB.set_ (f' := fM ({ f0 with zone := (zo : Int) }) a b c d e) R3 0 _ rfl, (F2.trans (Fr.of hba2 (Nat.le_of_lt R2.lt))).setCell (Nat.le_refl _) _, Lib.hid (if_pos (by omega)).symm⟩
      | exact ⟨f0, R2, F2, Lib.hid (if_neg (by omega)).symm⟩
  case rest =>
    clear R2 F2
    obtain ⟨f1, R1, F1, HF1⟩ := hcut
    go_upto_if 18 with (first | (go_at_call 90; (with_reducible refine (fWhos_any _).mono ?_); rintro e0 wa ⟨A, cc, rfl, ht, hba⟩) | (go_at_call 162; (with_reducible refine (fIndex_any whoT _ _ _ s _ ht (by decide) (by decide)).mono ?_); rw [Hwh.out]; rintro e0 wb ⟨rfl, rfl⟩))
    have R2 := R1.below hba
    have F2 := F1.trans (Fr.of hba (Nat.le_of_lt R1.lt))
    clear R1 F1 hba ht
    go_cut [] (fun wc => ∃ F, RB wc w.heap.size (fM F a b c d e) ∧ Fr w.heap.size w.heap.size W1 wc ∧ Hid (F = selW wh f1))
    case first =>
      go_wp2_with (first | (go_at_call 90; (with_reducible refine (fWhos_any _).mono ?_); rintro e0 wa2 ⟨A, cc, rfl, ht2, hba2⟩) | (go_at_call 162; (with_reducible refine (fIndex_any whoT _ _ _ s _ ht2 (by decide) (by decide)).mono ?_); rw [Hwh.out]; rintro e0 wb ⟨rfl, rfl⟩; have R3 := R2.below hba2; have c3 : World.cell? _ ⟨w.heap.size, 1, none⟩ = some (.int .i64 f1.who) := R3.cell 1; have z3 := R3.free 1))
      all_goals go_meet
      all_goals first
        | exact ⟨_, RB.set_ (f' := fM ({ f1 with who := (wh : Int) }) a b c d e) R3 1 _ rfl, (F2.trans (Fr.of hba2 (Nat.le_of_lt R2.lt))).setCell (Nat.le_refl _) _, Lib.hid (if_pos (by omega)).symm⟩
        | exact ⟨f1, R2, F2, Lib.hid (if_neg (by omega)).symm⟩
    case rest =>
      clear R2 F2
      obtain ⟨f2, R1, F1, HF2⟩ := hcut
      go_upto_if 26 with (first | (go_at_call 91; (with_reducible refine (fSelves_any _).mono ?_); rintro e0 wa ⟨A, cc, rfl, ht, hba⟩) | (go_at_call 162; (with_reducible refine (fIndex_any selfT _ _ _ s _ ht (by decide) (by decide)).mono ?_); rw [Hse.out]; rintro e0 wb ⟨rfl, rfl⟩))
      have R2 := R1.below hba
      have F2 := F1.trans (Fr.of hba (Nat.le_of_lt R1.lt))
      clear R1 F1 hba ht
      go_cut [] (fun wc => ∃ F, RB wc w.heap.size (fM F a b c d e) ∧ Fr w.heap.size w.heap.size W1 wc ∧ Hid (F = selS se f2))
      case first =>
        go_wp2_with (first | (go_at_call 91; (with_reducible refine (fSelves_any _).mono ?_); rintro e0 wa2 ⟨A, cc, rfl, ht2, hba2⟩) | (go_at_call 162; (with_reducible refine (fIndex_any selfT _ _ _ s _ ht2 (by decide) (by decide)).mono ?_); rw [Hse.out]; rintro e0 wb ⟨rfl, rfl⟩; have R3 := R2.below hba2; have c3 : World.cell? _ ⟨w.heap.size, 2, none⟩ = some (.int .i64 f2.self) := R3.cell 2; have z3 := R3.free 2))
        all_goals go_meet
        all_goals first
          | exact ⟨_, RB.set_ (f' := fM ({ f2 with self := (se : Int) }) a b c d e) R3 2 _ rfl, (F2.trans (Fr.of hba2 (Nat.le_of_lt R2.lt))).setCell (Nat.le_refl _) _, Lib.hid (if_pos (by omega)).symm⟩
          | exact ⟨f2, R2, F2, Lib.hid (if_neg (by omega)).symm⟩
      case rest =>
        clear R2 F2
        obtain ⟨f3, R1, F1, HF3⟩ := hcut
        go_upto_if 34 with (first | (go_at_call 92; (with_reducible refine (fTaps_any _).mono ?_); rintro e0 wa ⟨A, cc, rfl, ht, hba⟩) | (go_at_call 162; (with_reducible refine (fIndex_any tapT _ _ _ s _ ht (by decide) (by decide)).mono ?_); rw [Hta.out]; rintro e0 wb ⟨rfl, rfl⟩))
        have R2 := R1.below hba
        have F2 := F1.trans (Fr.of hba (Nat.le_of_lt R1.lt))
        clear R1 F1 hba ht
        go_cut [] (fun wc => ∃ F, RB wc w.heap.size (fM F a b c d e) ∧ Fr w.heap.size w.heap.size W1 wc ∧ Hid (F = selT ta f3))
        case first =>
          go_wp2_with (first | (go_at_call 92; (with_reducible refine (fTaps_any _).mono ?_); rintro e0 wa2 ⟨A, cc, rfl, ht2, hba2⟩) | (go_at_call 162; (with_reducible refine (fIndex_any tapT _ _ _ s _ ht2 (by decide) (by decide)).mono ?_); rw [Hta.out]; rintro e0 wb ⟨rfl, rfl⟩; have R3 := R2.below hba2; have c3 : World.cell? _ ⟨w.heap.size, 9, none⟩ = some (.int .i64 f3.tap) := R3.cell 9; have z3 := R3.free 9))
          all_goals go_meet
          all_goals first
            | exact ⟨_, RB.set_ (f' := fM ({ f3 with tap := (ta : Int) }) a b c d e) R3 9 _ rfl, (F2.trans (Fr.of hba2 (Nat.le_of_lt R2.lt))).setCell (Nat.le_refl _) _, Lib.hid (if_pos (by omega)).symm⟩
            | exact ⟨f3, R2, F2, Lib.hid (if_neg (by omega)).symm⟩
        case rest =>
          clear R2 F2
          obtain ⟨f4, R1, F1, HF4⟩ := hcut
          go_upto_if 44 with (go_at_call 163; (with_reducible refine (fAfter_opt s ⟨#[115, 117, 98, 58]⟩ subW rfl so _ (by omega) (by decide) st sb Hsu).mono ?_); rintro e0 wb ⟨rfl, rfl⟩)
          go_cut [] (fun wc => ∃ F, RB wc w.heap.size (fM F a b c d e) ∧ Fr w.heap.size w.heap.size W1 wc ∧ Hid (F = selSub sb st f4))
          case first =>
            have c3 : World.cell? _ ⟨w.heap.size, 7, none⟩ = some (.string f4.sub) := R1.cell 7
            have z3 := R1.free 7
            go_wp2_with fail
            all_goals go_meet
            all_goals first
              | exact ⟨_, RB.set_ (f' := fM { f4 with sub := B st } a b c d e) R1 7 _ rfl, F1.setCell (Nat.le_refl _) _, Lib.hid (if_pos (by assumption)).symm⟩
              | exact ⟨f4, R1, F1, Lib.hid (by rw [selSub, if_neg]; simp [*])⟩
          case rest =>
            clear R1 F1
            obtain ⟨f5, R1, F1, HF5⟩ := hcut
            go_upto_if 50 with (go_at_call 164; (with_reducible refine (fRead_lit s ⟨#[112, 111, 119, 101, 114]⟩ powerW rfl hs (by decide) _ pk pn Hp.out).mono ?_); rintro e0 wa ⟨rfl, hba⟩)
            have R2 := R1.below hba
            have F2 := F1.trans (Fr.of hba (Nat.le_of_lt R1.lt))
            clear R1 F1 hba
            go_cut [] (fun wc => ∃ F, RB wc w.heap.size (fM F a b c d e) ∧ Fr w.heap.size w.heap.size W1 wc ∧ Hid (F = selP pk pn f5))
            case first =>
              go_wp2_with (go_at_call 164; (with_reducible refine (fRead_lit s ⟨#[112, 111, 119, 101, 114]⟩ powerW rfl hs (by decide) _ pk pn Hp.out).mono ?_); rintro e0 wa2 ⟨rfl, hba2⟩; have R3 := R2.below hba2; have c3 : World.cell? _ ⟨w.heap.size, 10, none⟩ = some (.int .i64 f5.pk) := R3.cell 10; have z3 := R3.free 10; have c4 : World.cell? _ ⟨w.heap.size, 11, none⟩ = some (.int .i64 f5.pn) := R3.cell 11; have z4 := R3.free 11)
              all_goals go_meet
              all_goals first
                | exact ⟨_, RB.set_ (f' := fM { f5 with pk := (pk : Int), pn := pn } a b c d e) (RB.set_ (f' := fM { f5 with pk := (pk : Int) } a b c d e) R3 10 _ rfl) 11 _ rfl, ((F2.trans (Fr.of hba2 (Nat.le_of_lt R2.lt))).setCell (Nat.le_refl _) _).setCell (Nat.le_refl _) _, Lib.hid (if_pos (by omega)).symm⟩
                | exact ⟨f5, R2, F2, Lib.hid (if_neg (by omega)).symm⟩
            case rest =>
              clear R2 F2
              obtain ⟨f6, R1, F1, HF6⟩ := hcut
              go_upto_if 57 with (go_at_call 164; (with_reducible refine (fRead_lit s ⟨#[116, 111, 117, 103, 104]⟩ toughW rfl hs (by decide) _ tk tn Ht.out).mono ?_); rintro e0 wa ⟨rfl, hba⟩)
              have R2 := R1.below hba
              have F2 := F1.trans (Fr.of hba (Nat.le_of_lt R1.lt))
              clear R1 F1 hba
              go_cut [] (fun wc => ∃ F, RB wc w.heap.size (fM F a b c d e) ∧ Fr w.heap.size w.heap.size W1 wc ∧ Hid (F = selTo tk tn f6))
              case first =>
                go_wp2_with (go_at_call 164; (with_reducible refine (fRead_lit s ⟨#[116, 111, 117, 103, 104]⟩ toughW rfl hs (by decide) _ tk tn Ht.out).mono ?_); rintro e0 wa2 ⟨rfl, hba2⟩; have R3 := R2.below hba2; have c3 : World.cell? _ ⟨w.heap.size, 12, none⟩ = some (.int .i64 f6.tk) := R3.cell 12; have z3 := R3.free 12; have c4 : World.cell? _ ⟨w.heap.size, 13, none⟩ = some (.int .i64 f6.tn) := R3.cell 13; have z4 := R3.free 13)
                all_goals go_meet
                all_goals first
                  | exact ⟨_, RB.set_ (f' := fM { f6 with tk := (tk : Int), tn := tn } a b c d e) (RB.set_ (f' := fM { f6 with tk := (tk : Int) } a b c d e) R3 12 _ rfl) 13 _ rfl, ((F2.trans (Fr.of hba2 (Nat.le_of_lt R2.lt))).setCell (Nat.le_refl _) _).setCell (Nat.le_refl _) _, Lib.hid (if_pos (by omega)).symm⟩
                  | exact ⟨f6, R2, F2, Lib.hid (if_neg (by omega)).symm⟩
              case rest =>
                clear R2 F2
                obtain ⟨f7, R1, F1, HF7⟩ := hcut
                go_upto_if 64 with (go_at_call 164; (with_reducible refine (fRead_lit s ⟨#[118, 97, 108, 117, 101]⟩ valueW rfl hs (by decide) _ vk vn Hv.out).mono ?_); rintro e0 wa ⟨rfl, hba⟩)
                have R2 := R1.below hba
                have F2 := F1.trans (Fr.of hba (Nat.le_of_lt R1.lt))
                clear R1 F1 hba
                go_cut [] (fun wc => ∃ F, RB wc w.heap.size (fM F a b c d e) ∧ Fr w.heap.size w.heap.size W1 wc ∧ Hid (F = selV vk vn f7))
                case first =>
                  go_wp2_with (go_at_call 164; (with_reducible refine (fRead_lit s ⟨#[118, 97, 108, 117, 101]⟩ valueW rfl hs (by decide) _ vk vn Hv.out).mono ?_); rintro e0 wa2 ⟨rfl, hba2⟩; have R3 := R2.below hba2; have c3 : World.cell? _ ⟨w.heap.size, 14, none⟩ = some (.int .i64 f7.vk) := R3.cell 14; have z3 := R3.free 14; have c4 : World.cell? _ ⟨w.heap.size, 15, none⟩ = some (.int .i64 f7.vn) := R3.cell 15; have z4 := R3.free 15)
                  all_goals go_meet
                  all_goals first
                    | exact ⟨_, RB.set_ (f' := fM { f7 with vk := (vk : Int), vn := vn } a b c d e) (RB.set_ (f' := fM { f7 with vk := (vk : Int) } a b c d e) R3 14 _ rfl) 15 _ rfl, ((F2.trans (Fr.of hba2 (Nat.le_of_lt R2.lt))).setCell (Nat.le_refl _) _).setCell (Nat.le_refl _) _, Lib.hid (if_pos (by omega)).symm⟩
                    | exact ⟨f7, R2, F2, Lib.hid (if_neg (by omega)).symm⟩
                case rest =>
                  clear R2 F2
                  obtain ⟨f8, R1, F1, HF8⟩ := hcut
                  have HA : f8 = selV vk vn (selTo tk tn (selP pk pn (selSub sb st (selT ta (selS se (selW wh (selZ zo f0))))))) := by rw [HF8.out, HF7.out, HF6.out, HF5.out, HF4.out, HF3.out, HF2.out, HF1.out]
                  rw [← HA] at HQ
                  have HAA := Lib.hid HA
                  have R1h := Lib.hid R1
                  have hg8 := R1.lt
                  have hrr : Hid (wc.heap[w.heap.size + 1]? = some (.cells zeroF.cells TF (0, 0))) := Lib.hid ((F1.keep _ HZ.out.2 (by omega)).trans HZ.out.1)
                  have hlt2 : w.heap.size + 1 < wc.heap.size := Nat.lt_of_lt_of_le HZ.out.2 F1.bel.size
                  have hbW := Lib.hid (HB1.out.trans F1.bel)
                  clear HA R1 F1
                  go_wp2_with (first | refine wpList_load_row rfl TF (.tmp 2) rfl w.heap.size rfl TF (fM f8 a b c d e).cells (0, 0) _ R1h.out Tryz.underlying25 rfl infoTF ?_ | (go_at_call 165; (with_reducible refine (fNamed_any s f8 a b c d e ha hb hc hd he hs _).mono ?_); rw [HQ.out]; rintro e0 wz ⟨rfl, hbz, hform⟩; have hrz := Lib.hid ((hbz.block _ hlt2).trans hrr.out); have HFO := Lib.hid hform; clear hform) | refine wpList_store_row rfl TF (.tmp 4) (.tmp 70) rfl (w.heap.size + 1) Q.cells rfl rfl TF zeroF.cells hrz.out infoTF rfl (cells_one _) ?_)
                  exact bodyPost_ret (results_cell_row rfl _ _ (w.heap.size + 1) TF Q.cells (0, 0) _ rfl (row_set hrz.out) Tryz.underlying25 rfl infoTF) rfl (by rw [← HAA.out]; exact ⟨rfl, below_setRow (below_two hbW.out hbz) (by omega) _, HFO.out⟩)
theorem fWord_any (s : ByteArray) (f0 : Flt) (a b c d e : Nat) (ha : a < 2 ^ 17) (hb : b < 2 ^ 17) (hc : c < 2 ^ 17) (hd : d < 2 ^ 17) (he : e < 2 ^ 17) (hs : s.size < 100000000) (w : World) :
    ∃ F, Calls Tryz.prog 142 #[.agg (fM f0 a b c d e).cells, .string s] w (RetFlt F w (qWord (fM f0 a b c d e) (L s))) :=
  ⟨_, fWord_at s f0 a b c d e ha hb hc hd he hs w (qIndex zoneT (L s)) (qIndex whoT (L s)) (qIndex selfT (L s)) (qIndex tapT (L s)) (qAfter (L s) subW) ((qAfter (L s) subW).getD []) (qAfter (L s) subW).isSome (qRead (L s) powerW).1 (qRead (L s) powerW).2 (qRead (L s) toughW).1 (qRead (L s) toughW).2 (qRead (L s) valueW).1 (qRead (L s) valueW).2 (Lib.hid rfl) (Lib.hid rfl) (Lib.hid rfl) (Lib.hid rfl) (Lib.hid ⟨rfl, rfl, rfl⟩) (Lib.hid rfl) (Lib.hid rfl) (Lib.hid rfl) _ (Lib.hid (by unfold qWord; rw [qSet_sel]))⟩
end Go.Proofs.YtakgfbcmkhcdkaaGreatDoor
namespace Go.Proofs.YtakgfbcmkhcdkaaGreatDoor
set_option linter.all false
open Go.ChangeShapes Go.WideShapes Go.RowKit
section words
variable (a b c d e f g : Int) (s : ByteArray) (k t p q u v y z : Int)
theorem qk_type (i x : Nat) (hi : i < 6) (hx : x < 2 ^ 31) : some (qWord ⟨a, b, c, (x : Int), e, f, g, s, k, t, p, q, u, v, y, z⟩ ([] ++ wd typeT i)) = some ⟨a, b, c, ((x ||| 2 ^ i : Nat) : Int), e, f, g, s, k, t, p, q, u, v, y, z⟩ := by
  rw [← qMask_or hx (by omega : i < 31)]
  rcases i with _ | _ | _ | _ | _ | _ | i
  all_goals first | omega | kernel_rfl
theorem qk_ntype (i x : Nat) (hi : i < 6) (hx : x < 2 ^ 31) : some (qWord ⟨a, b, c, d, (x : Int), f, g, s, k, t, p, q, u, v, y, z⟩ (nonW ++ wd typeT i)) = some ⟨a, b, c, d, ((x ||| 2 ^ i : Nat) : Int), f, g, s, k, t, p, q, u, v, y, z⟩ := by
  rw [← qMask_or hx (by omega : i < 31)]
  rcases i with _ | _ | _ | _ | _ | _ | i
  all_goals first | omega | kernel_rfl
theorem qk_color (i x : Nat) (hi : i < 5) (hx : x < 2 ^ 31) : some (qWord ⟨a, b, c, d, e, (x : Int), g, s, k, t, p, q, u, v, y, z⟩ ([] ++ wd colorT i)) = some ⟨a, b, c, d, e, ((x ||| 2 ^ i : Nat) : Int), g, s, k, t, p, q, u, v, y, z⟩ := by
  rw [← qMask_or hx (by omega : i < 31)]
  rcases i with _ | _ | _ | _ | _ | i
  all_goals first | omega | kernel_rfl
theorem qk_ncolor (i x : Nat) (hi : i < 5) (hx : x < 2 ^ 31) : some (qWord ⟨a, b, c, d, e, f, (x : Int), s, k, t, p, q, u, v, y, z⟩ (nonW ++ wd colorT i)) = some ⟨a, b, c, d, e, f, ((x ||| 2 ^ i : Nat) : Int), s, k, t, p, q, u, v, y, z⟩ := by
  rw [← qMask_or hx (by omega : i < 31)]
  rcases i with _ | _ | _ | _ | _ | i
  all_goals first | omega | kernel_rfl
set_option maxRecDepth 100000 in
theorem qk_key (i x : Nat) (hi : i < 17) (hx : x < 2 ^ 31) : some (qWord ⟨a, b, c, d, e, f, g, s, (x : Int), t, p, q, u, v, y, z⟩ (withW ++ wd kwT i)) = some ⟨a, b, c, d, e, f, g, s, ((x ||| 2 ^ i : Nat) : Int), t, p, q, u, v, y, z⟩ := by
  rw [← qMask_or hx (by omega : i < 31)]
  rcases i with _ | _ | _ | _ | _ | _ | _ | _ | _ | _ | _ | _ | _ | _ | _ | _ | _ | i
  all_goals first | omega | kernel_rfl
theorem qk_zone (i : Nat) (hi : i < 6) (h0 : wd zoneT i ≠ []) : some (qWord ⟨a, b, c, d, e, f, g, s, k, t, p, q, u, v, y, z⟩ (wd zoneT i)) = some ⟨(i : Nat), b, c, d, e, f, g, s, k, t, p, q, u, v, y, z⟩ := by
  rcases i with _ | _ | _ | _ | _ | _ | i
  · exact absurd rfl h0
  all_goals first | omega | kernel_rfl
theorem qk_who (i : Nat) (hi : i < 3) (h0 : wd whoT i ≠ []) : some (qWord ⟨a, b, c, d, e, f, g, s, k, t, p, q, u, v, y, z⟩ (wd whoT i)) = some ⟨a, (i : Nat), c, d, e, f, g, s, k, t, p, q, u, v, y, z⟩ := by
  rcases i with _ | _ | _ | i
  · exact absurd rfl h0
  all_goals first | omega | kernel_rfl
theorem qk_self (i : Nat) (hi : i < 3) (h0 : wd selfT i ≠ []) : some (qWord ⟨a, b, c, d, e, f, g, s, k, t, p, q, u, v, y, z⟩ (wd selfT i)) = some ⟨a, b, (i : Nat), d, e, f, g, s, k, t, p, q, u, v, y, z⟩ := by
  rcases i with _ | _ | _ | i
  · exact absurd rfl h0
  all_goals first | omega | kernel_rfl
theorem qk_tap (i : Nat) (hi : i < 3) (h0 : wd tapT i ≠ []) : some (qWord ⟨a, b, c, d, e, f, g, s, k, t, p, q, u, v, y, z⟩ (wd tapT i)) = some ⟨a, b, c, d, e, f, g, s, k, (i : Nat), p, q, u, v, y, z⟩ := by
  rcases i with _ | _ | _ | i
  · exact absurd rfl h0
  all_goals first | omega | kernel_rfl
theorem qr_some {w name r : Str} {n : Int} {k : Nat} (h : qAfter w (name ++ wd signT k) = some r) (hn : rdNum r = some n) : qr w name k = some (k, n) := by unfold qr; rw [h]; simp [hn]
theorem qr_none {w name : Str} {k : Nat} (h : qAfter w (name ++ wd signT k) = none) : qr w name k = none := by unfold qr; rw [h]; rfl
theorem qRead_eq (w name : Str) : qRead w name = (match qr w name 1 with | some x => x | none => match qr w name 2 with | some x => x | none => match qr w name 3 with | some x => x | none => (0, 0)) := by
  show ((([1, 2, 3] : List Nat)).findSome? (qr w name)).getD (0, 0) = _
  simp only [List.findSome?]
  cases qr w name 1 with
  | some x => rfl
  | none => cases qr w name 2 with
    | some x => rfl
    | none => cases qr w name 3 with
      | some x => rfl
      | none => rfl
theorem qRead1 {w name r : Str} {n : Int} (h : qAfter w (name ++ wd signT 1) = some r) (hn : rdNum r = some n) : qRead w name = (1, n) := by rw [qRead_eq, qr_some h hn]
theorem qRead2 {w name r : Str} {n : Int} (h1 : qAfter w (name ++ wd signT 1) = none) (h : qAfter w (name ++ wd signT 2) = some r) (hn : rdNum r = some n) : qRead w name = (2, n) := by rw [qRead_eq, qr_none h1, qr_some h hn]
theorem qRead3 {w name r : Str} {n : Int} (h1 : qAfter w (name ++ wd signT 1) = none) (h2 : qAfter w (name ++ wd signT 2) = none) (h : qAfter w (name ++ wd signT 3) = some r) (hn : rdNum r = some n) : qRead w name = (3, n) := by rw [qRead_eq, qr_none h1, qr_none h2, qr_some h hn]
theorem qGo {F G : Flt} {w : Str} {p t v : Nat × Int} (h0 : qIndex zoneT w = 0) (h1 : qIndex whoT w = 0) (h2 : qIndex selfT w = 0) (h3 : qIndex tapT w = 0) (h4 : qAfter w subW = none) (hp : qRead w powerW = p) (ht : qRead w toughW = t) (hv : qRead w valueW = v)
    (hn : ∀ F, qNamed F w = F) (hG : qSet F 0 0 0 0 none p t v = G) : qWord F w = G := by unfold qWord; rw [h0, h1, h2, h3, h4, hp, ht, hv, hn, hG]
theorem qk_power (i n : Nat) (hi : i < 4) (h0 : i ≠ 0) (hn : n ≤ 1000000) : some (qWord ⟨a, b, c, d, e, f, g, s, k, t, p, q, u, v, y, z⟩ (powerW ++ wd signT i ++ Lib.itoa n)) = some ⟨a, b, c, d, e, f, g, s, k, t, (i : Nat), (n : Nat), u, v, y, z⟩ := by
  have hno := rdNum_itoa n hn
  generalize Lib.itoa (n : Nat) = r at *
  rcases i with _ | _ | _ | _ | i
  · exact absurd rfl h0
  · exact congrArg some (qGo rfl rfl rfl rfl rfl (qRead1 (r := r) rfl hno) rfl rfl (fun _ => rfl) rfl)
  · exact congrArg some (qGo rfl rfl rfl rfl rfl (qRead2 (r := r) rfl rfl hno) rfl rfl (fun _ => rfl) rfl)
  · exact congrArg some (qGo rfl rfl rfl rfl rfl (qRead3 (r := r) rfl rfl rfl hno) rfl rfl (fun _ => rfl) rfl)
  · omega
theorem qk_tough (i n : Nat) (hi : i < 4) (h0 : i ≠ 0) (hn : n ≤ 1000000) : some (qWord ⟨a, b, c, d, e, f, g, s, k, t, p, q, u, v, y, z⟩ (toughW ++ wd signT i ++ Lib.itoa n)) = some ⟨a, b, c, d, e, f, g, s, k, t, p, q, (i : Nat), (n : Nat), y, z⟩ := by
  have hno := rdNum_itoa n hn
  generalize Lib.itoa (n : Nat) = r at *
  rcases i with _ | _ | _ | _ | i
  · exact absurd rfl h0
  · exact congrArg some (qGo rfl rfl rfl rfl rfl rfl (qRead1 (r := r) rfl hno) rfl (fun _ => rfl) rfl)
  · exact congrArg some (qGo rfl rfl rfl rfl rfl rfl (qRead2 (r := r) rfl rfl hno) rfl (fun _ => rfl) rfl)
  · exact congrArg some (qGo rfl rfl rfl rfl rfl rfl (qRead3 (r := r) rfl rfl rfl hno) rfl (fun _ => rfl) rfl)
  · omega
theorem qk_value (i n : Nat) (hi : i < 4) (h0 : i ≠ 0) (hn : n ≤ 1000000) : some (qWord ⟨a, b, c, d, e, f, g, s, k, t, p, q, u, v, y, z⟩ (valueW ++ wd signT i ++ Lib.itoa n)) = some ⟨a, b, c, d, e, f, g, s, k, t, p, q, u, v, (i : Nat), (n : Nat)⟩ := by
  have hno := rdNum_itoa n hn
  generalize Lib.itoa (n : Nat) = r at *
  rcases i with _ | _ | _ | _ | i
  · exact absurd rfl h0
  · exact congrArg some (qGo rfl rfl rfl rfl rfl rfl rfl (qRead1 (r := r) rfl hno) (fun _ => rfl) rfl)
  · exact congrArg some (qGo rfl rfl rfl rfl rfl rfl rfl (qRead2 (r := r) rfl rfl hno) (fun _ => rfl) rfl)
  · exact congrArg some (qGo rfl rfl rfl rfl rfl rfl rfl (qRead3 (r := r) rfl rfl rfl hno) (fun _ => rfl) rfl)
  · omega
end words
theorem qk_sub (F : Flt) (r : Str) : some (qWord F (subW ++ r)) = some { F with sub := B r } := by
  refine congrArg some ?_
  unfold qWord
  rw [show qIndex zoneT (subW ++ r) = 0 from rfl, show qIndex whoT (subW ++ r) = 0 from rfl, show qIndex selfT (subW ++ r) = 0 from rfl, show qIndex tapT (subW ++ r) = 0 from rfl, show qAfter (subW ++ r) subW = some r from rfl,
    show qRead (subW ++ r) powerW = (0, 0) from rfl, show qRead (subW ++ r) toughW = (0, 0) from rfl, show qRead (subW ++ r) valueW = (0, 0) from rfl, show ∀ F, qNamed F (subW ++ r) = F from fun _ => rfl]
  rfl
theorem qWord_ok : StepOk (fun f w => some (qWord f w)) := ⟨qk_type, qk_ntype, qk_color, qk_ncolor, qk_key, qk_zone, qk_who, qk_self, qk_tap, qk_sub, qk_power, qk_tough, qk_value⟩
theorem foldG_total (st : Flt → Str → Flt) (l : List Str) : ∀ f, foldG (fun f w => some (st f w)) f l = some (l.foldl st f) := by
  induction l with
  | nil => intro f; rfl
  | cons x r ih => intro f; exact ih _
/-- The filter with a text, as the reference finds it. -/
def qParse (s : Str) : Option Flt := if textOf ((dsplit 32 s).foldl qWord zeroF) = s ∧ fltIs ((dsplit 32 s).foldl qWord zeroF) = true then some ((dsplit 32 s).foldl qWord zeroF) else none
theorem flat_word {w : Str} (h : NoB w) : Flat w := List.all_eq_true.2 fun c hc => by
  have h1 := List.all_eq_true.1 h c hc
  have key : ∀ n : Fin 256, okB (UInt8.ofNat n.val) = true → (!(UInt8.ofNat n.val == 40 || (UInt8.ofNat n.val == 41 || (UInt8.ofNat n.val == 91 || UInt8.ofNat n.val == 93)))) = true := by decide +kernel
  have := key ⟨c.toNat, c.toNat_lt⟩
  rw [UInt8.ofNat_toNat] at this
  exact this h1
theorem Flat.app {a b : Str} (ha : Flat a) (hb : Flat b) : Flat (a ++ b) := by
  unfold Flat at *; rw [List.all_append, ha, hb]; rfl
theorem flat_join : ∀ (l : List Str), (∀ x ∈ l, Flat x) → Flat (Lib.join l [32])
  | [], _ => by rw [Lib.join_nil]; rfl
  | [x], h => by rw [Lib.join_one]; exact h x (by simp)
  | x :: y :: r, h => by
    rw [join_cons2]
    exact ((h x (by simp)).app (by rfl)).app (flat_join (y :: r) (fun z hz => h z (List.mem_cons_of_mem _ hz)))
theorem qParse_text {f : Flt} (h : fltIs f = true) : qParse (textOf f) = some f := by
  obtain ⟨hf, hok⟩ := fltIs_fn h
  have ht : textOf f = fltText (toFN f) := by unfold textOf; rw [if_pos h]
  have hfold := fold_gn _ qWord_ok _ hok
  rw [hf, foldG_total] at hfold
  injection hfold with hfold
  have hF : Flat (fltText (toFN f)) := by
    unfold fltText; split
    · rfl
    · exact flat_join _ fun x hx => flat_word (words_noB _ hok x hx)
  have hE : (dsplit 32 (textOf f)).foldl qWord zeroF = f := by
    rw [ht, dsplit_flat _ _ hF]
    by_cases hw : fltWords (toFN f) = []
    · rw [hw] at hfold
      have : fltText (toFN f) = anyW := by unfold fltText; rw [if_pos hw]
      rw [this, show splitOn 32 anyW = [anyW] from by decide]
      exact (show [anyW].foldl qWord zeroF = zeroF from by kernel_rfl).trans hfold
    · rw [text_splits _ hok hw]; exact hfold
  unfold qParse; rw [hE, if_pos ⟨rfl, h⟩]
/-- The two readings agree on every text. -/
theorem qParse_eq (s : Str) : qParse s = parseS s := by
  cases hp : parseS s with
  | some h =>
    obtain ⟨h1, h2⟩ := parse_back hp
    rw [← h2]; exact qParse_text h1
  | none =>
    cases hq : qParse s with
    | none => rfl
    | some g =>
      unfold qParse at hq; split at hq
      · rename_i hh
        injection hq with hq
        rw [hq] at hh
        have := parse_text hh.2
        rw [hh.1, hp] at this; cases this
      · cases hq
end Go.Proofs.YtakgfbcmkhcdkaaGreatDoor
