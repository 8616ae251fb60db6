/- Walks: package amount: guess, Parse. Conditions: LaidM; the text is shorter than 100 million bytes. -/
import Derived.Test.YtcbegdjmopgbbaaGreatDoorMText
import Derived.Test.YtcbegdjmopgbbaaGreatDoorMCut
import Derived.Test.YtcbegdjmopgbbaaGreatDoorRdr
namespace Go.Proofs.YtcbegdjmopgbbaaGreatDoor
set_option linter.all false
open Go.ChangeShapes Go.WideShapes Go.RowKit
theorem wpList_build1a {P : Program} {ops : Array Oper} {rest : List Oper} {o : Oper} {a : Act} {w : World} {Q : Exit → Act → World → Prop} (hgd : o.guard = none) (ty : TypeId) (i : Nat) (x : Operand) (ho : o.op = .build ty #[(i, x)])
    (p v : Value) (hx : a.eval x = p) (hv : (Instr.build ty #[(i, p)]).run P w = .ok v w) (h : wpList P ops Q rest (a.put o.dst v) w) : wpList P ops Q (o :: rest) a w :=
  wpList_plain hgd fun _ hK => by
    unfold Oper.wp execOp
    simp only [ho, List.map_toArray, List.map_cons, List.map_nil, hx, Sem.run_bind, hv, Sem.run_pure, Result.andThen_ok]
    exact hK _ _ h
theorem build_an (n : Int) (w : World) : (Instr.build TAm #[(1, .int .i64 n)]).run Tryz.prog w = .ok (.agg (Am.cells ⟨0, n, 0, zeroF⟩)) w := by kernel_rfl
theorem build_ak (k : Int) (w : World) : (Instr.build TAm #[(0, .int .i64 k)]).run Tryz.prog w = .ok (.agg (Am.cells ⟨k, 0, 0, zeroF⟩)) w := by kernel_rfl
theorem build_ac (k c : Int) (w : World) : (Instr.build TAm #[(0, .int .i64 k), (2, .int .i64 c)]).run Tryz.prog w = .ok (.agg (Am.cells ⟨k, 0, c, zeroF⟩)) w := by kernel_rfl
theorem build_akn (k n : Int) (w : World) : (Instr.build TAm #[(0, .int .i64 k), (1, .int .i64 n)]).run Tryz.prog w = .ok (.agg (Am.cells ⟨k, n, 0, zeroF⟩)) w := by kernel_rfl
theorem number_is (s : ByteArray) (n : Int) (b : Bool) (h : Hid (numRet (numOf (L s)) = .tuple #[.int .i64 n, .bool b])) (hs : s.size < 4294967281) (w : World) (hl : LaidM w) : Calls Tryz.prog 56 #[.string s] w fun e w' => e = .returned (.tuple #[.int .i64 n, .bool b]) ∧ Below w.heap.size w w' :=
  (number_any s w hl.base hs).mono fun e w' h' => ⟨by rw [h'.1, h.out], h'.2⟩
theorem cutPreM_is (s p : ByteArray) (w : World) (pl : Str) (hp : L p = pl) (r : Str) (b : Bool) (h : Hid (Lib.trimPrefix (L s) pl = r ∧ Lib.hasPrefix (L s) pl = b)) :
    Calls Tryz.prog 57 #[.string s, .string p] w fun e w' => e = .returned (.tuple #[.string (B r), .bool b]) ∧ w = w' :=
  (cutPrefix_any s p w pl hp).mono fun e w' h' => ⟨by rw [h'.1, h.out.1, h.out.2], h'.2⟩
theorem trimPreM_is (s p : ByteArray) (w : World) (pl : Str) (hp : L p = pl) (r : Str) (h : Hid (Lib.trimPrefix (L s) pl = r)) :
    Calls Tryz.prog 62 #[.string s, .string p] w fun e w' => e = .returned (.string (B r)) ∧ w = w' := by
  subst hp
  exact (Tryz.strings_TrimPrefix s p w).mono fun _ _ h' => ⟨h'.1.trans (by rw [← h.out]; rfl), h'.2.symm⟩
theorem trimSufM_is (s p : ByteArray) (w : World) (hs : s.size < 1000000000) (pl : Str) (hp : L p = pl) (r : Str) (h : Hid (Lib.trimSuffix (L s) pl = r)) :
    Calls Tryz.prog 59 #[.string s, .string p] w fun e w' => e = .returned (.string (B r)) ∧ w = w' := by
  subst hp
  exact (Tryz.strings_TrimSuffix s p w (by omega)).mono fun _ _ h' => ⟨h'.1.trans (by rw [← h.out]; rfl), h'.2.symm⟩
theorem wcut_is (s : ByteArray) (v : Value) (h : Hid (cutRet s (cutD 42 0 (L s)) = v)) (hs : s.size < 100000000) (w : World) : Calls Tryz.prog 60 #[.string s, .string ⟨#[42]⟩] w fun e w' => e = .returned v ∧ Below w.heap.size w w' :=
  (wcut_any s w hs).mono fun e w' h' => ⟨by rw [h'.1, h.out], h'.2⟩
/-- The result's row stands, empty; nothing older has turned. -/
def ASt (w wr : World) : Prop := wr.heap[w.heap.size]? = some (.cells zeroA.cells TAm) ∧ Below w.heap.size w wr
theorem ASt.below {w w1 w2 : World} (h : ASt w w1) (hb : Below w1.heap.size w1 w2) : ASt w w2 := ⟨blk_below2 hb h.1, below_two h.2 hb⟩
theorem ASt.bel {w wr : World} (h : ASt w wr) : Below w.heap.size w wr := h.2
theorem ASt.setRow {w w1 : World} (h : ASt w w1) {g : Nat} (hg : w.heap.size < g) (cs : Array Value) : ASt w (w1.setRow g cs) :=
  ⟨(setRow_other w1 g w.heap.size cs (by omega)).trans h.1, below_setRow h.2 (Nat.le_of_lt hg) cs⟩
set_option maxRecDepth 100000 in
set_option maxHeartbeats 2000000 in
theorem guess_any (s : ByteArray) (w : World) (hl : LaidM w) (hs : s.size < 100000000) :
    Calls Tryz.prog 25 #[.string s] w fun e w' => e = .returned (.agg (guessA (L s)).cells) ∧ Below w.heap.size w w' := by
  obtain ⟨R, hR⟩ : ∃ R, guessA (L s) = R := ⟨_, rfl⟩
  rw [hR]
  have HR := Lib.hid hR
  clear hR
  have hss : Hid (s.size < 4294967281) := Lib.hid (by omega)
  have hss8 : Hid (s.size < 100000000) := Lib.hid hs
  have hl1 := hl.alloc (.cells zeroA.cells TAm)
  have S0 : Hid (ASt w (w.alloc (.cells zeroA.cells TAm))) := Lib.hid ⟨heap_alloc_new w _, (Below.refl _ _).alloc (Nat.le_refl _) _⟩
  cases hn : numOf (L s) with
  | some n =>
    have HM : Hid (numRet (numOf (L s)) = .tuple #[.int .i64 n, .bool true]) := Lib.hid (by rw [hn]; rfl)
    have HN : Hid (R = ⟨0, n, 0, zeroF⟩) := Lib.hid (by rw [← HR.out]; unfold guessA; rw [hn])
    clear hn
    go_enter Tryz.func25, Tryz.ntmps25
    go_wp2_with (first | (rw [wpList_skip_eq]; rotate_left; · rfl) | (go_at_call 56; (refine (number_is s n true HM hss.out _ hl1).mono ?_); rintro e w1 ⟨rfl, hb1⟩; have S1 := Lib.hid (ASt.below S0.out hb1); have hl2 := hl.below S1.out.2) | refine wpList_build1a (by rfl) TAm 1 _ (by rfl) (.int .i64 n) (.agg (Am.cells ⟨0, n, 0, zeroF⟩)) (by rfl) (build_an _ _) ?_ | refine wpList_store_row (by rfl) TAm _ _ (by rfl) w.heap.size (Am.cells ⟨0, n, 0, zeroF⟩) (by rfl) (by rfl) TAm zeroA.cells S1.out.1 infoTAm rfl (acells_one _) ?_)
    exact bodyPost_ret (results_cell_row rfl _ _ w.heap.size TAm (Am.cells ⟨0, n, 0, zeroF⟩) (0, 0) _ rfl (row_set S1.out.1) Tryz.underlying27 rfl infoTAm) rfl ⟨ret_val (by rw [HN.out]), below_setRow S1.out.2 (Nat.le_refl _) _⟩
  | none =>
    have HM : Hid (numRet (numOf (L s)) = .tuple #[.int .i64 0, .bool false]) := Lib.hid (by rw [hn]; rfl)
    have HR1 : Hid ((match simIx (L s) with
      | some k => (⟨(k : Int), 0, 0, zeroF⟩ : Am)
      | none => if Lib.hasPrefix (L s) cntsW = true then ⟨4, 0, (((cntIx (Lib.trimSuffix (Lib.trimPrefix (L s) cntsW) [41])).getD 0 : Nat) : Int), zeroF⟩
        else match cutD 42 0 (L s) with
          | some (a, r) => ⟨2, (numOf a).getD 0, 0, (parseS (inCount r)).getD zeroF⟩
          | none => ⟨2, 1, 0, (parseS (inCount (L s))).getD zeroF⟩) = R) := Lib.hid (by have h := HR.out; unfold guessA at h; rw [hn] at h; exact h)
    clear hn HR
    go_enter Tryz.func25, Tryz.ntmps25
    go_wp2_with (first | (rw [wpList_skip_eq]; rotate_left; · rfl) | (go_at_call 56; (refine (number_is s 0 false HM hss.out _ hl1).mono ?_); rintro e w1 ⟨rfl, hb1⟩; have S1 := Lib.hid (ASt.below S0.out hb1); have hl2 := hl.below S1.out.2))
    go_loop [5] (fun kv => ∃ k : Nat, k ≤ 8 ∧ kv = .int .i64 k ∧ Hid (simIx (L s) = (List.range' k (8 - k)).find? fun k => wd simT k == L s)) (fun kv => 8 - (intOf kv).toNat)
    case atStart => exact ⟨0, by omega, rfl, rfl⟩
    case round =>
      obtain ⟨k, hk, rfl, HD⟩ := hrel
      by_cases hlt : k < 8
      · have hk7 : (k : Int) ≤ 7 := by omega
        have hst := HD.out
        rw [show 8 - k = (8 - (k + 1)) + 1 by omega, List.range'_succ, List.find?_cons] at hst
        have hsim := Lib.hid (fun (wx : World) => simple_any k hlt wx)
        by_cases he : wd simT k = L s
        · have te := toList_yes he
          have HN : Hid (R = ⟨(k : Int), 0, 0, zeroF⟩) := Lib.hid (by have h := HR1.out; rw [hst, show (wd simT k == L s) = true by simpa using he] at h; exact h.symm)
          clear hst he
          go_wp2_with (first | (go_at_call 22; (with_reducible refine (hsim.out _).mono ?_); rintro e wu ⟨rfl, rfl⟩) | refine wpList_build1a (by rfl) TAm 0 _ (by rfl) (.int .i64 k) (.agg (Am.cells ⟨(k : Int), 0, 0, zeroF⟩)) (by rfl) (build_ak _ _) ?_ | refine wpList_store_row (by rfl) TAm _ _ (by rfl) w.heap.size (Am.cells ⟨(k : Int), 0, 0, zeroF⟩) (by rfl) (by rfl) TAm zeroA.cells S1.out.1 infoTAm rfl (acells_one _) ?_)
          exact bodyPost_ret (results_cell_row rfl _ _ w.heap.size TAm (Am.cells ⟨(k : Int), 0, 0, zeroF⟩) (0, 0) _ rfl (row_set S1.out.1) Tryz.underlying27 rfl infoTAm) rfl ⟨ret_val (by rw [HN.out]), below_setRow S1.out.2 (Nat.le_refl _) _⟩
        · have te := toList_no he
          have HD2 : Hid (simIx (L s) = (List.range' (k + 1) (8 - (k + 1))).find? fun k => wd simT k == L s) := Lib.hid (by rw [hst, show (wd simT k == L s) = false by simpa using he])
          clear hst he
          go_wp2_with (first | (go_at_call 22; (with_reducible refine (hsim.out _).mono ?_); rintro e wu ⟨rfl, rfl⟩))
          go_round
          case rel => exact ⟨k + 1, by omega, by go_num, HD2⟩
          case measure => simp [intOf]; omega
      · obtain rfl : k = 8 := by omega
        have hsn : simIx (L s) = none := by rw [HD.out]; rfl
        have HR2 : Hid ((if Lib.hasPrefix (L s) cntsW = true then (⟨4, 0, (((cntIx (Lib.trimSuffix (Lib.trimPrefix (L s) cntsW) [41])).getD 0 : Nat) : Int), zeroF⟩ : Am)
          else match cutD 42 0 (L s) with
            | some (a, r) => ⟨2, (numOf a).getD 0, 0, (parseS (inCount r)).getD zeroF⟩
            | none => ⟨2, 1, 0, (parseS (inCount (L s))).getD zeroF⟩) = R) := Lib.hid (by have h := HR1.out; rw [hsn] at h; exact h)
        have ec : L ⟨#[99, 111, 117, 110, 116, 101, 114, 115, 40]⟩ = cntsW := rfl
        obtain ⟨r, hr⟩ : ∃ r, Lib.trimPrefix (L s) cntsW = r := ⟨_, rfl⟩
        have hrl : r.length ≤ s.size := by rw [← hr, ← size_l]; exact Lib.trimPrefix_le _ _
        clear HD HR1 hsn
        cases hb : Lib.hasPrefix (L s) cntsW with
        | true =>
          have HCP : Hid (Lib.trimPrefix (L s) cntsW = r ∧ Lib.hasPrefix (L s) cntsW = true) := Lib.hid ⟨hr, hb⟩
          obtain ⟨r2, hr2⟩ : ∃ r2, Lib.trimSuffix (L (B r)) [41] = r2 := ⟨_, rfl⟩
          obtain ⟨m, hm⟩ : ∃ m : Int, (((cntIx (L (B r2))).getD 0 : Nat) : Int) = m := ⟨_, rfl⟩
          obtain ⟨b2, hb2⟩ : ∃ b2, (cntIx (L (B r2))).isSome = b2 := ⟨_, rfl⟩
          have HK := Lib.hid (And.intro hm hb2)
          have HN : Hid (R = ⟨4, 0, m, zeroF⟩) := Lib.hid (by have h := HR2.out; rw [if_pos hb, hr] at h; rw [← h, ← hm, ← hr2, L_B, L_B])
          have HT2 := Lib.hid hr2
          have hrs : Hid ((B r).size < 1000000000) := Lib.hid (by rw [B_size]; omega)
          clear hr hrl hb hr2 hm hb2 HR2
          go_wp2_with (first | (rw [wpList_skip_eq]; rotate_left; · rfl) | (go_at_call 57; (with_reducible refine (cutPreM_is s ⟨#[99, 111, 117, 110, 116, 101, 114, 115, 40]⟩ _ cntsW ec r true HCP).mono ?_); rintro e wu ⟨rfl, rfl⟩) | (go_at_call 59; (with_reducible refine (trimSufM_is (B r) ⟨#[41]⟩ _ hrs.out [41] rfl r2 HT2).mono ?_); rintro e wu ⟨rfl, rfl⟩) | (go_at_call 58; (with_reducible refine (cntKind_is (B r2) m b2 HK _ hl2).mono ?_); rintro e wu ⟨rfl, rfl⟩) | refine wpList_build_g (by rfl) TAm 0 2 _ _ (by rfl) (.int .i64 4) (.int .i64 m) (.agg (Am.cells ⟨4, 0, m, zeroF⟩)) (by rfl) (by rfl) (build_ac _ _ _) ?_ | refine wpList_store_row (by rfl) TAm _ _ (by rfl) w.heap.size (Am.cells ⟨4, 0, m, zeroF⟩) (by rfl) (by rfl) TAm zeroA.cells S1.out.1 infoTAm rfl (acells_one _) ?_)
          exact bodyPost_ret (results_cell_row rfl _ _ w.heap.size TAm (Am.cells ⟨4, 0, m, zeroF⟩) (0, 0) _ rfl (row_set S1.out.1) Tryz.underlying27 rfl infoTAm) rfl ⟨ret_val (by rw [HN.out]), below_setRow S1.out.2 (Nat.le_refl _) _⟩
        | false =>
          have HCP : Hid (Lib.trimPrefix (L s) cntsW = r ∧ Lib.hasPrefix (L s) cntsW = false) := Lib.hid ⟨hr, hb⟩
          have HG1 : Hid (w.heap.size < w1.heap.size) := Lib.hid (blk_lt S1.out.1)
          have HR3 : Hid ((match cutD 42 0 (L s) with
            | some (a, r) => (⟨2, (numOf a).getD 0, 0, (parseS (inCount r)).getD zeroF⟩ : Am)
            | none => ⟨2, 1, 0, (parseS (inCount (L s))).getD zeroF⟩) = R) := Lib.hid (by have h := HR2.out; rw [if_neg (by rw [hb]; simp)] at h; exact h)
          clear hr hrl hb HR2
          cases hc : cutD 42 0 (L s) with
          | none =>
            have HWC : Hid (cutRet s (cutD 42 0 (L s)) = .tuple #[.string s, .string ⟨#[]⟩, .bool false]) := Lib.hid (by rw [hc]; rfl)
            have HT : Hid (R = ⟨2, 1, 0, (parseS (inCount (L s))).getD zeroF⟩) := Lib.hid (by have h := HR3.out; rw [hc] at h; exact h.symm)
            clear hc HR3
            go_wp2_with (first | (rw [wpList_skip_eq]; rotate_left; · rfl) | (go_at_call 57; (with_reducible refine (cutPreM_is s ⟨#[99, 111, 117, 110, 116, 101, 114, 115, 40]⟩ _ cntsW ec r false HCP).mono ?_); rintro e wu ⟨rfl, rfl⟩) | refine wpList_build_g (by rfl) TAm 0 1 _ _ (by rfl) (.int .i64 2) (.int .i64 1) (.agg (Am.cells ⟨2, 1, 0, zeroF⟩)) (by rfl) (by rfl) (build_akn _ _ _) ?_ | (refine wpList_store_row (by rfl) TAm _ _ (by rfl) w1.heap.size (Am.cells ⟨2, 1, 0, zeroF⟩) (by rfl) (by rfl) TAm zeroA.cells (heap_alloc_new w1 _) infoTAm rfl (acells_one _) ?_; change wpList _ _ _ _ _ (stored w1 TAm zeroA.cells (Am.cells ⟨2, 1, 0, zeroF⟩)); have g2 := Lib.hid (stored_new w1 TAm zeroA.cells (Am.cells ⟨2, 1, 0, zeroF⟩)); have S2 := Lib.hid (ASt.below S1.out (stored_below w1 TAm zeroA.cells (Am.cells ⟨2, 1, 0, zeroF⟩))); generalize stored w1 TAm zeroA.cells (Am.cells ⟨2, 1, 0, zeroF⟩) = w2 at *) | (go_at_call 60; (with_reducible refine (wcut_is s _ HWC hss8.out _).mono ?_); rintro e w2b ⟨rfl, hb2b⟩; have S2b := Lib.hid (ASt.below S2.out hb2b); have g2b := Lib.hid (blk_below2 hb2b g2.out)))
            generalize w1.heap.size = g10 at *
            have HG0 := HG1
            obtain ⟨p1, hp1⟩ : ∃ p1, Lib.trimPrefix (L s) countW = p1 := ⟨_, rfl⟩
            have hp1l : p1.length ≤ (L s).length := by rw [← hp1]; exact Lib.trimPrefix_le _ _
            have hrb : (L s).length < 100000000 := by rw [size_l]; exact hs
            obtain ⟨p2, hp2⟩ : ∃ p2, Lib.trimSuffix (L (B p1)) [41] = p2 := ⟨_, rfl⟩
            have hp2l : p2.length ≤ p1.length := by rw [← hp2, L_B]; exact Lib.trimSuffix_le _ _
            have hp1s : Hid ((B p1).size < 1000000000) := Lib.hid (by rw [B_size]; omega)
            have hp2s : (B p2).size < 100000000 := by rw [B_size]; omega
            have hin : inCount (L s) = p2 := by unfold inCount; rw [hp1, ← hp2, L_B]
            have FP : ∀ wx, Laid wx → Calls Tryz.prog 61 #[.string (B p2)] wx fun e w' => e = .returned (fltRet (parseS p2)) ∧ Below wx.heap.size wx w' := fun wx hlx => (fltParse_any _ wx hlx hp2s).mono fun e w' h => ⟨by rw [h.1, L_B], h.2⟩
            obtain ⟨f, c, hfc, hff⟩ : ∃ f c, fltRet (parseS p2) = .tuple #[.agg (Flt.cells f), .int .i64 c] ∧ (parseS p2).getD zeroF = f := by
              cases parseS p2 with
              | none => exact ⟨zeroF, 3, rfl, rfl⟩
              | some f => exact ⟨f, 0, rfl, rfl⟩
            rw [hfc] at FP
            have HN : Hid (R = ⟨2, 1, 0, f⟩) := Lib.hid (by rw [HT.out, hin, hff])
            have HFP := Lib.hid FP
            have HP1 := Lib.hid hp1
            have HP2 := Lib.hid hp2
            have HG : Hid (w.heap.size < g10) := HG0
            clear hp1 hp2 hp1l hp2l hp2s hrb hin FP hfc hff
            go_wp2_with (first | (rw [wpList_skip_eq]; rotate_left; · rfl) | (go_at_call 62; (with_reducible refine (trimPreM_is s ⟨#[99, 111, 117, 110, 116, 40]⟩ _ countW rfl p1 HP1).mono ?_); rintro e wu ⟨rfl, rfl⟩) | (go_at_call 59; (with_reducible refine (trimSufM_is (B p1) ⟨#[41]⟩ _ hp1s.out [41] rfl p2 HP2).mono ?_); rintro e wu ⟨rfl, rfl⟩) | (go_at_call 61; (with_reducible refine (HFP.out _ (hl.below (ASt.bel S2b.out)).base).mono ?_); rintro e w5 ⟨rfl, hb5⟩; have S5 := Lib.hid (ASt.below S2b.out hb5); have g5 := Lib.hid (blk_below2 hb5 g2b.out)) | (refine wpList_store_part (by rfl) TF _ _ (by rfl) g10 3 TAm (Am.cells ⟨2, 1, 0, zeroF⟩) f.cells (Am.cells ⟨2, 1, 0, f⟩) (by rfl) (by rfl) g5.out (by simp [Am.cells, Flt.cells]) (am_put _ f) infoTF (cells_one _) ?_; have g6 := Lib.hid (row_set (cs := Am.cells ⟨2, 1, 0, f⟩) g5.out); have S6 := Lib.hid (ASt.setRow S5.out HG.out (Am.cells ⟨2, 1, 0, f⟩)); generalize World.setRow w5 g10 (Am.cells ⟨2, 1, 0, f⟩) = w6 at *) | refine wpList_load_row_g (by rfl) TAm _ (by rfl) g10 (by rfl) TAm (Am.cells ⟨2, 1, 0, f⟩) (0, 0) _ g6.out Tryz.underlying27 rfl infoTAm ?_ | refine wpList_store_row (by rfl) TAm _ _ (by rfl) w.heap.size (Am.cells ⟨2, 1, 0, f⟩) (by rfl) (by rfl) TAm zeroA.cells S6.out.1 infoTAm rfl (acells_one _) ?_)
            exact bodyPost_ret (results_cell_row rfl _ _ w.heap.size TAm (Am.cells ⟨2, 1, 0, f⟩) (0, 0) _ rfl (row_set S6.out.1) Tryz.underlying27 rfl infoTAm) rfl ⟨ret_val (by rw [HN.out]), below_setRow S6.out.2 (Nat.le_refl _) _⟩
          | some pr =>
            obtain ⟨a, rr⟩ := pr
            have hlen : a.length ≤ s.size ∧ rr.length ≤ s.size := by rw [← size_l]; exact cutD_len hc
            have HWC : Hid (cutRet s (cutD 42 0 (L s)) = .tuple #[.string (B a), .string (B rr), .bool true]) := Lib.hid (by rw [hc]; rfl)
            obtain ⟨n, b3, hnb, hng⟩ : ∃ n b3, numRet (numOf a) = .tuple #[.int .i64 n, .bool b3] ∧ (numOf a).getD 0 = n := by
              cases numOf a with
              | none => exact ⟨0, false, rfl, rfl⟩
              | some v => exact ⟨v, true, rfl, rfl⟩
            have HM2 : Hid (numRet (numOf (L (B a))) = .tuple #[.int .i64 n, .bool b3]) := Lib.hid (by rw [L_B]; exact hnb)
            have has : Hid ((B a).size < 4294967281) := Lib.hid (by rw [B_size]; omega)
            have HT : Hid (R = ⟨2, n, 0, (parseS (inCount (L (B rr)))).getD zeroF⟩) := Lib.hid (by have h := HR3.out; rw [hc] at h; rw [← h, ← hng, L_B])
            have hrrl : rr.length < 100000000 := by omega
            clear hc HR3 hnb hng hlen
            go_wp2_with (first | (rw [wpList_skip_eq]; rotate_left; · rfl) | (go_at_call 57; (with_reducible refine (cutPreM_is s ⟨#[99, 111, 117, 110, 116, 101, 114, 115, 40]⟩ _ cntsW ec r false HCP).mono ?_); rintro e wu ⟨rfl, rfl⟩) | refine wpList_build_g (by rfl) TAm 0 1 _ _ (by rfl) (.int .i64 2) (.int .i64 1) (.agg (Am.cells ⟨2, 1, 0, zeroF⟩)) (by rfl) (by rfl) (build_akn _ _ _) ?_ | (refine wpList_store_row (by rfl) TAm _ _ (by rfl) w1.heap.size (Am.cells ⟨2, 1, 0, zeroF⟩) (by rfl) (by rfl) TAm zeroA.cells (heap_alloc_new w1 _) infoTAm rfl (acells_one _) ?_; change wpList _ _ _ _ _ (stored w1 TAm zeroA.cells (Am.cells ⟨2, 1, 0, zeroF⟩)); have g2 := Lib.hid (stored_new w1 TAm zeroA.cells (Am.cells ⟨2, 1, 0, zeroF⟩)); have S2 := Lib.hid (ASt.below S1.out (stored_below w1 TAm zeroA.cells (Am.cells ⟨2, 1, 0, zeroF⟩))); generalize stored w1 TAm zeroA.cells (Am.cells ⟨2, 1, 0, zeroF⟩) = w2 at *) | (go_at_call 60; (with_reducible refine (wcut_is s _ HWC hss8.out _).mono ?_); rintro e w2b ⟨rfl, hb2b⟩; have S2b := Lib.hid (ASt.below S2.out hb2b); have g2b := Lib.hid (blk_below2 hb2b g2.out)))
            generalize w1.heap.size = g10 at *
            have HG0 := HG1
            go_wp2_with (first | (rw [wpList_skip_eq]; rotate_left; · rfl) | (go_at_call 56; (with_reducible refine (number_is (B a) n b3 HM2 has.out _ (hl.below (ASt.bel S2b.out))).mono ?_); rintro e w3 ⟨rfl, hb3⟩; have S3 := Lib.hid (ASt.below S2b.out hb3); have g3 := Lib.hid (blk_below2 hb3 g2b.out)) | (refine wpList_store_int (by rfl) 3 _ _ (by rfl) g10 1 TAm (Am.cells ⟨2, 1, 0, zeroF⟩) (Am.cells ⟨2, n, 0, zeroF⟩) .i64 n (by rfl) (by rfl) g3.out (by simp [Am.cells]) (by simp [Am.cells]) infoInt1 ?_; have g4 := Lib.hid (row_set (cs := Am.cells ⟨2, n, 0, zeroF⟩) g3.out); have S4 := Lib.hid (ASt.setRow S3.out HG0.out (Am.cells ⟨2, n, 0, zeroF⟩)); generalize World.setRow w3 g10 (Am.cells ⟨2, n, 0, zeroF⟩) = w4 at *))
            obtain ⟨p1, hp1⟩ : ∃ p1, Lib.trimPrefix (L (B rr)) countW = p1 := ⟨_, rfl⟩
            have hp1l : p1.length ≤ (L (B rr)).length := by rw [← hp1]; exact Lib.trimPrefix_le _ _
            have hrb : (L (B rr)).length < 100000000 := by rw [L_B]; exact hrrl
            obtain ⟨p2, hp2⟩ : ∃ p2, Lib.trimSuffix (L (B p1)) [41] = p2 := ⟨_, rfl⟩
            have hp2l : p2.length ≤ p1.length := by rw [← hp2, L_B]; exact Lib.trimSuffix_le _ _
            have hp1s : Hid ((B p1).size < 1000000000) := Lib.hid (by rw [B_size]; omega)
            have hp2s : (B p2).size < 100000000 := by rw [B_size]; omega
            have hin : inCount (L (B rr)) = p2 := by unfold inCount; rw [hp1, ← hp2, L_B]
            have FP : ∀ wx, Laid wx → Calls Tryz.prog 61 #[.string (B p2)] wx fun e w' => e = .returned (fltRet (parseS p2)) ∧ Below wx.heap.size wx w' := fun wx hlx => (fltParse_any _ wx hlx hp2s).mono fun e w' h => ⟨by rw [h.1, L_B], h.2⟩
            obtain ⟨f, c, hfc, hff⟩ : ∃ f c, fltRet (parseS p2) = .tuple #[.agg (Flt.cells f), .int .i64 c] ∧ (parseS p2).getD zeroF = f := by
              cases parseS p2 with
              | none => exact ⟨zeroF, 3, rfl, rfl⟩
              | some f => exact ⟨f, 0, rfl, rfl⟩
            rw [hfc] at FP
            have HN : Hid (R = ⟨2, n, 0, f⟩) := Lib.hid (by rw [HT.out, hin, hff])
            have HFP := Lib.hid FP
            have HP1 := Lib.hid hp1
            have HP2 := Lib.hid hp2
            have HG : Hid (w.heap.size < g10) := HG0
            clear hp1 hp2 hp1l hp2l hp2s hrb hin FP hfc hff
            go_wp2_with (first | (rw [wpList_skip_eq]; rotate_left; · rfl) | (go_at_call 62; (with_reducible refine (trimPreM_is (B rr) ⟨#[99, 111, 117, 110, 116, 40]⟩ _ countW rfl p1 HP1).mono ?_); rintro e wu ⟨rfl, rfl⟩) | (go_at_call 59; (with_reducible refine (trimSufM_is (B p1) ⟨#[41]⟩ _ hp1s.out [41] rfl p2 HP2).mono ?_); rintro e wu ⟨rfl, rfl⟩) | (go_at_call 61; (with_reducible refine (HFP.out _ (hl.below (ASt.bel S4.out)).base).mono ?_); rintro e w5 ⟨rfl, hb5⟩; have S5 := Lib.hid (ASt.below S4.out hb5); have g5 := Lib.hid (blk_below2 hb5 g4.out)) | (refine wpList_store_part (by rfl) TF _ _ (by rfl) g10 3 TAm (Am.cells ⟨2, n, 0, zeroF⟩) f.cells (Am.cells ⟨2, n, 0, f⟩) (by rfl) (by rfl) g5.out (by simp [Am.cells, Flt.cells]) (am_put _ f) infoTF (cells_one _) ?_; have g6 := Lib.hid (row_set (cs := Am.cells ⟨2, n, 0, f⟩) g5.out); have S6 := Lib.hid (ASt.setRow S5.out HG.out (Am.cells ⟨2, n, 0, f⟩)); generalize World.setRow w5 g10 (Am.cells ⟨2, n, 0, f⟩) = w6 at *) | refine wpList_load_row_g (by rfl) TAm _ (by rfl) g10 (by rfl) TAm (Am.cells ⟨2, n, 0, f⟩) (0, 0) _ g6.out Tryz.underlying27 rfl infoTAm ?_ | refine wpList_store_row (by rfl) TAm _ _ (by rfl) w.heap.size (Am.cells ⟨2, n, 0, f⟩) (by rfl) (by rfl) TAm zeroA.cells S6.out.1 infoTAm rfl (acells_one _) ?_)
            exact bodyPost_ret (results_cell_row rfl _ _ w.heap.size TAm (Am.cells ⟨2, n, 0, f⟩) (0, 0) _ rfl (row_set S6.out.1) Tryz.underlying27 rfl infoTAm) rfl ⟨ret_val (by rw [HN.out]), below_setRow S6.out.2 (Nat.le_refl _) _⟩
end Go.Proofs.YtcbegdjmopgbbaaGreatDoor
