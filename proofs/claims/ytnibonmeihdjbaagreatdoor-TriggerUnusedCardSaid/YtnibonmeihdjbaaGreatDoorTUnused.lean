/- TriggerUnused: a trigger with a field that its kind does not use is not valid. Conditions: LaidT. -/
import Derived.Test.YtnibonmeihdjbaaGreatDoorTTextL
namespace Go.Proofs.YtnibonmeihdjbaaGreatDoor
set_option linter.all false
open Go.ChangeShapes Go.WideShapes Go.RowKit
attribute [local go_sem ↓] rowLdT_fold
/-- A store that the walk does not open. -/
def rowStT (t : TypeId) (p v : Value) : Sem Unit := Instr.storeAt t p v
theorem rowStT_fold (p v : Value) : Instr.storeAt 27 p v = rowStT 27 p v := rfl
theorem store_tg (r o : Tg) (g : Nat) (w : World) (h : w.heap[g]? = some (.cells o.cells TTg)) : (rowStT 27 (.pointer (some ⟨g, 0, none⟩)) (.agg r.cells)).run Tryz.prog w = .ok () (w.setRow g r.cells) := by
  simp only [rowStT, Instr.storeAt, Instr.sureAddr, Sem.run_bind, Sem.run_pure, Result.andThen_ok, run_storeVar_row w g TTg TTg o.cells r.cells h infoTTg rfl (tcells_one r)]
attribute [local go_sem ↓] rowStT_fold
/-- A trigger's row and two more, of which one may hold nothing yet. -/
theorem OneT.laid {w w1 : World} {r : Tg} (h : OneT w r w1) : LaidT w1 := h.1
theorem OneT.alloc {w w1 : World} {r : Tg} (h : OneT w r w1) (o : Obj) : OneT w r (w1.alloc o) := h.below ((Below.refl _ _).alloc (Nat.le_refl _) _)
theorem OneT.setRow {w w1 : World} {r : Tg} (h : OneT w r w1) (hl : LaidT w) {g : Nat} (hg : w.heap.size < g) (cs : Array Value) : OneT w r (w1.setRow g cs) :=
  have hb := below_setRow h.2.1 (Nat.le_of_lt hg) cs
  ⟨hl.below hb, hb, (setRow_other w1 g w.heap.size cs (by omega)).trans h.2.2⟩
/-- What is given behind the two copies: the trigger at w.heap.size, its copies at a and b. -/
def Two (w : World) (t : Tg) (a b : Nat) (w1 : World) : Prop := OneT w t w1 ∧ w1.heap[a]? = some (.cells t.cells TTg) ∧ w1.heap[b]? = some (.cells t.cells TTg) ∧ w.heap.size < a ∧ w.heap.size < b ∧ a ≠ b
theorem unused_draws {t : Tg} {n : Int} (h : tgIs t = true) (hn : 1 ≤ n) (hF : usesF t.k = false) : tgIs ⟨t.k, t.who, { t.f with types := n }⟩ = false := by
  have h5 : fltEq { t.f with types := n } zeroF = false := by
    cases hh : fltEq { t.f with types := n } zeroF with
    | false => rfl
    | true =>
      have := congrArg Flt.types ((fltEq_iff _ _).1 hh)
      simp [zeroF] at this
      omega
  unfold tgIs
  simp only [hF, h5]
  simp
theorem unused_casts {t : Tg} (h9 : t.k = 9) : tgIs ⟨t.k, t.who, { t.f with zone := 0 }⟩ = false := by
  unfold tgIs; simp [h9, usesF]
theorem unused_who {t : Tg} {n : Int} (hn : 1 ≤ n) (hW : usesW t.k = false) : tgIs ⟨t.k, n, t.f⟩ = false := by
  unfold tgIs
  simp only [hW]
  have : (n == 0) = false := by rw [beq_eq_false_iff_ne]; omega
  simp [this]
set_option maxRecDepth 100000 in
set_option maxHeartbeats 2000000 in
theorem unused_long (t : Tg) (n : Int) (hs : (100 : Int) < t.f.sub.size) (w : World) (hl : LaidT w) : Calls Tryz.prog 6 #[.agg t.cells, .int .i64 n] w fun e w' => e = .returned (.bool true) ∧ Below w.heap.size w w' := by
  have r0 := Lib.hid (heap_alloc_new w (.cells t.cells TTg))
  have q9 : (w.alloc (.cells t.cells TTg)).cell? ⟨w.heap.size, 9, none⟩ = some (.string t.f.sub) := cell_of_row _ _ 9 _ _ (0, 0) r0.out
  have hl1 := hl.alloc (.cells t.cells TTg)
  have k0 : Hid (Below w.heap.size w (w.alloc (.cells t.cells TTg))) := Lib.hid ((Below.refl _ _).alloc (Nat.le_refl _) _)
  go_enter Tryz.func6, Tryz.ntmps6
  go_wp2_with (first | (rw [wpList_skip_eq]; rotate_left; · rfl) | (go_at_call 8; (with_reducible refine (aliveT_any _ hl1).mono ?_); rintro e wz ⟨rfl, hbz⟩))
  go_ret
  exact ⟨rfl, below_two k0.out hbz⟩
set_option maxRecDepth 100000 in
set_option maxHeartbeats 2000000 in
theorem unused_no (t : Tg) (n : Int) (hs : ¬ (100 : Int) < t.f.sub.size) (HV : Hid (tgIs t = false)) (w : World) (hl : LaidT w) : Calls Tryz.prog 6 #[.agg t.cells, .int .i64 n] w fun e w' => e = .returned (.bool true) ∧ Below w.heap.size w w' := by
  have r0 := Lib.hid (heap_alloc_new w (.cells t.cells TTg))
  have q9 : (w.alloc (.cells t.cells TTg)).cell? ⟨w.heap.size, 9, none⟩ = some (.string t.f.sub) := cell_of_row _ _ 9 _ _ (0, 0) r0.out
  have hl1 := hl.alloc (.cells t.cells TTg)
  have k0 : Hid (Below w.heap.size w (w.alloc (.cells t.cells TTg))) := Lib.hid ((Below.refl _ _).alloc (Nat.le_refl _) _)
  go_enter Tryz.func6, Tryz.ntmps6
  go_wp2_with (first | (rw [wpList_skip_eq]; rotate_left; · rfl) | refine wpList_load_row_g (by rfl) TTg _ (by rfl) w.heap.size (by rfl) TTg t.cells (0, 0) _ r0.out Tryz.underlying27 rfl infoTTg ?_ | (go_at_call 9; (with_reducible refine (tIs_v t false HV _ hl1).mono ?_); rintro e w1 ⟨rfl, hb1⟩; have r1 := Lib.hid (blk_below2 hb1 r0.out); have hl2 := hl1.below hb1; have k1 := Lib.hid (below_two k0.out hb1)) | (go_at_call 8; (with_reducible refine (aliveT_any _ hl2).mono ?_); rintro e wz ⟨rfl, hbz⟩))
  go_ret
  exact ⟨rfl, below_two k1.out hbz⟩
set_option maxRecDepth 100000 in
set_option maxHeartbeats 2000000 in
theorem unused_small (t : Tg) (n : Int) (hs : ¬ (100 : Int) < t.f.sub.size) (hn : n < 1) (HV : Hid (tgIs t = true)) (w : World) (hl : LaidT w) : Calls Tryz.prog 6 #[.agg t.cells, .int .i64 n] w fun e w' => e = .returned (.bool true) ∧ Below w.heap.size w w' := by
  have r0 := Lib.hid (heap_alloc_new w (.cells t.cells TTg))
  have q9 : (w.alloc (.cells t.cells TTg)).cell? ⟨w.heap.size, 9, none⟩ = some (.string t.f.sub) := cell_of_row _ _ 9 _ _ (0, 0) r0.out
  have hl1 := hl.alloc (.cells t.cells TTg)
  have k0 : Hid (Below w.heap.size w (w.alloc (.cells t.cells TTg))) := Lib.hid ((Below.refl _ _).alloc (Nat.le_refl _) _)
  go_enter Tryz.func6, Tryz.ntmps6
  go_wp2_with (first | (rw [wpList_skip_eq]; rotate_left; · rfl) | refine wpList_load_row_g (by rfl) TTg _ (by rfl) w.heap.size (by rfl) TTg t.cells (0, 0) _ r0.out Tryz.underlying27 rfl infoTTg ?_ | (go_at_call 9; (with_reducible refine (tIs_v t true HV _ hl1).mono ?_); rintro e w1 ⟨rfl, hb1⟩; have r1 := Lib.hid (blk_below2 hb1 r0.out); have hl2 := hl1.below hb1; have k1 := Lib.hid (below_two k0.out hb1)) | (go_at_call 8; (with_reducible refine (aliveT_any _ hl2).mono ?_); rintro e wz ⟨rfl, hbz⟩))
  go_ret
  exact ⟨rfl, below_two k1.out hbz⟩
/-- All blocks made since w1 hold triggers. -/
def NewT (w1 w' : World) : Prop := w1.heap.size ≤ w'.heap.size ∧ ∀ g, w1.heap.size ≤ g → g < w'.heap.size → ∃ r : Tg, w'.heap[g]? = some (.cells r.cells TTg)
def OneN (w : World) (t : Tg) (w1 w' : World) : Prop := OneT w t w' ∧ NewT w1 w'
theorem OneN.open_ {w w1 w' : World} {t : Tg} (h : OneN w t w1 w') : LaidT w' ∧ Below w.heap.size w w' ∧ w'.heap[w.heap.size]? = some (.cells t.cells TTg) ∧ NewT w1 w' := ⟨h.1.1, h.1.2.1, h.1.2.2, h.2⟩
theorem OneN.drew {w w1 w' : World} {t : Tg} (h : OneN w t w1 w') : OneN w t w1 w'.drew := ⟨h.1.drew, h.2⟩
theorem OneN.alloc {w w1 w' : World} {t : Tg} (h : OneN w t w1 w') : OneN w t w1 (w'.alloc (.cells zeroT.cells TTg)) :=
  ⟨h.1.alloc _, by simp; have := h.2.1; omega, fun g h1 h2 => by
    by_cases e : g < w'.heap.size
    · obtain ⟨r, hr⟩ := h.2.2 g h1 e
      exact ⟨r, (Below.heap_alloc w' _ g e).trans hr⟩
    · obtain rfl : g = w'.heap.size := by simp at h2; omega
      exact ⟨zeroT, heap_alloc_new w' _⟩⟩
theorem OneN.setRow {w w1 w' : World} {t : Tg} (h : OneN w t w1 w') (hl : LaidT w) {g : Nat} (hg : w.heap.size < g) : OneN w t w1 (w'.setRow g t.cells) :=
  ⟨h.1.setRow hl hg _, by simp; exact h.2.1, fun g' h1 h2 => by
    have h3 : g' < w'.heap.size := by simpa using h2
    obtain ⟨r, hr⟩ := h.2.2 g' h1 h3
    by_cases e : g' = g
    · subst e; exact ⟨t, row_set hr⟩
    · exact ⟨r, (setRow_other w' g g' _ e).trans hr⟩⟩
theorem store_new {w1 : World} {t : Tg} (w' : World) (g : Nat) (h : NewT w1 w') (h1 : w1.heap.size ≤ g) (h2 : g < w'.heap.size) : (rowStT 27 (.pointer (some ⟨g, 0, none⟩)) (.agg t.cells)).run Tryz.prog w' = .ok () (w'.setRow g t.cells) := by
  obtain ⟨r, hr⟩ := h.2 g h1 h2
  exact store_tg t r g w' hr
theorem two_a {w w1 : World} {t : Tg} (h : OneT w t w1) (hl : LaidT w) (hgt : w.heap.size < w1.heap.size) : OneT w t ((((w1.alloc (Obj.cells zeroT.cells TTg)).alloc (Obj.cells zeroT.cells TTg)).drew.setRow w1.heap.size t.cells).setRow (w1.heap.size + 1) t.cells) ∧ ((((w1.alloc (Obj.cells zeroT.cells TTg)).alloc (Obj.cells zeroT.cells TTg)).drew.setRow w1.heap.size t.cells).setRow (w1.heap.size + 1) t.cells).heap[w1.heap.size]? = some (.cells t.cells TTg) ∧ ((((w1.alloc (Obj.cells zeroT.cells TTg)).alloc (Obj.cells zeroT.cells TTg)).drew.setRow w1.heap.size t.cells).setRow (w1.heap.size + 1) t.cells).heap[w1.heap.size + 1]? = some (.cells t.cells TTg) := by
  have z1 : ((w1.alloc (Obj.cells zeroT.cells TTg)).alloc (Obj.cells zeroT.cells TTg)).drew.heap[w1.heap.size]? = some (.cells zeroT.cells TTg) := heap_alloc2_old w1 _ _
  have z2 : ((w1.alloc (Obj.cells zeroT.cells TTg)).alloc (Obj.cells zeroT.cells TTg)).drew.heap[w1.heap.size + 1]? = some (.cells zeroT.cells TTg) := heap_alloc2_new w1 _ _
  have s1 := row_set (cs := t.cells) z1
  have s2 := (setRow_other ((w1.alloc (Obj.cells zeroT.cells TTg)).alloc (Obj.cells zeroT.cells TTg)).drew w1.heap.size (w1.heap.size + 1) t.cells (by omega)).trans z2
  exact ⟨OneT.setRow (OneT.setRow (OneT.drew (OneT.alloc (OneT.alloc h _) _)) hl hgt _) hl (by omega) _, (setRow_other _ (w1.heap.size + 1) w1.heap.size t.cells (by omega)).trans s1, row_set s2⟩
theorem two_b {w w1 : World} {t : Tg} (h : OneT w t w1) (hl : LaidT w) (hgt : w.heap.size < w1.heap.size) : OneT w t ((((w1.alloc (Obj.cells zeroT.cells TTg)).alloc (Obj.cells zeroT.cells TTg)).drew.setRow (w1.heap.size + 1) t.cells).setRow w1.heap.size t.cells) ∧ ((((w1.alloc (Obj.cells zeroT.cells TTg)).alloc (Obj.cells zeroT.cells TTg)).drew.setRow (w1.heap.size + 1) t.cells).setRow w1.heap.size t.cells).heap[w1.heap.size]? = some (.cells t.cells TTg) ∧ ((((w1.alloc (Obj.cells zeroT.cells TTg)).alloc (Obj.cells zeroT.cells TTg)).drew.setRow (w1.heap.size + 1) t.cells).setRow w1.heap.size t.cells).heap[w1.heap.size + 1]? = some (.cells t.cells TTg) := by
  have z1 : ((w1.alloc (Obj.cells zeroT.cells TTg)).alloc (Obj.cells zeroT.cells TTg)).drew.heap[w1.heap.size]? = some (.cells zeroT.cells TTg) := heap_alloc2_old w1 _ _
  have z2 : ((w1.alloc (Obj.cells zeroT.cells TTg)).alloc (Obj.cells zeroT.cells TTg)).drew.heap[w1.heap.size + 1]? = some (.cells zeroT.cells TTg) := heap_alloc2_new w1 _ _
  have s1 := row_set (cs := t.cells) z2
  have s2 := (setRow_other ((w1.alloc (Obj.cells zeroT.cells TTg)).alloc (Obj.cells zeroT.cells TTg)).drew (w1.heap.size + 1) w1.heap.size t.cells (by omega)).trans z1
  exact ⟨OneT.setRow (OneT.setRow (OneT.drew (OneT.alloc (OneT.alloc h _) _)) hl (by omega) _) hl hgt _, row_set s2, (setRow_other _ w1.heap.size (w1.heap.size + 1) t.cells (by omega)).trans s1⟩
set_option maxRecDepth 100000 in
set_option maxHeartbeats 2000000 in
theorem unused_d8 (t : Tg) (n : Int) (hs : ¬ (100 : Int) < t.f.sub.size) (hn : ¬ n < 1) (HV : Hid (tgIs t = true)) (hk : t.k = 8) (HY : Hid (tgIs ⟨t.k, t.who, { t.f with types := n }⟩ = false)) (w : World) (hl : LaidT w) : Calls Tryz.prog 6 #[.agg t.cells, .int .i64 n] w fun e w' => e = .returned (.bool true) ∧ Below w.heap.size w w' := by
  have e8 : (t.k == 8) = true := by simpa using hk
  clear hk
  have r0 := Lib.hid (heap_alloc_new w (.cells t.cells TTg))
  have q9 : (w.alloc (.cells t.cells TTg)).cell? ⟨w.heap.size, 9, none⟩ = some (.string t.f.sub) := cell_of_row _ _ 9 _ _ (0, 0) r0.out
  have hl1 := hl.alloc (.cells t.cells TTg)
  have k0 : Hid (Below w.heap.size w (w.alloc (.cells t.cells TTg))) := Lib.hid ((Below.refl _ _).alloc (Nat.le_refl _) _)
  have hld := fun (w' : World) (h : w'.heap[w.heap.size]? = some (.cells t.cells TTg)) => load_tg t w.heap.size w' h
  go_enter Tryz.func6, Tryz.ntmps6
  go_upto_region 3 with (first | (rw [wpList_skip_eq]; rotate_left; · rfl) | refine wpList_load_row_g (by rfl) TTg _ (by rfl) w.heap.size (by rfl) TTg t.cells (0, 0) _ r0.out Tryz.underlying27 rfl infoTTg ?_ | (go_at_call 9; (with_reducible refine (tIs_v t true HV _ hl1).mono ?_); rintro e w1 ⟨rfl, hb1⟩; have r1 := Lib.hid (blk_below2 hb1 r0.out); have hl2 := hl1.below hb1; have k1 := Lib.hid (below_two k0.out hb1)))
  have hT1 : OneT w t w1 := ⟨hl2, k1.out, r1.out⟩
  have hgt : w.heap.size < w1.heap.size := blk_lt r1.out
  have hN1 : OneN w t w1 w1 := ⟨hT1, Nat.le_refl _, fun g h1 h2 => absurd h2 (by omega)⟩
  have hst := fun (w' : World) (g : Nat) (h : NewT w1 w') (h1 : w1.heap.size ≤ g) (h2 : g < w'.heap.size) => store_new (t := t) w' g h h1 h2
  go_region_held3 (fun w' => LaidT w' ∧ Below w.heap.size w w' ∧ w'.heap[w.heap.size]? = some (.cells t.cells TTg) ∧ NewT w1 w') (exact OneN.open_ (by repeat' (first | exact hN1 | apply OneN.drew | apply OneN.alloc | apply OneN.setRow | exact hl | omega | (simp; omega)))) (fail)
  · obtain ⟨O3, ra3, rb3⟩ := two_a hT1 hl hgt
    change Exit.then _ _ _ _ ((((w1.alloc (Obj.cells zeroT.cells TTg)).alloc (Obj.cells zeroT.cells TTg)).drew.setRow w1.heap.size t.cells).setRow (w1.heap.size + 1) t.cells)
    generalize ((((w1.alloc (Obj.cells zeroT.cells TTg)).alloc (Obj.cells zeroT.cells TTg)).drew.setRow w1.heap.size t.cells).setRow (w1.heap.size + 1) t.cells) = w3 at *
    obtain ⟨a, ha⟩ : ∃ a, w1.heap.size = a := ⟨_, rfl⟩
    obtain ⟨b, hb⟩ : ∃ b, w1.heap.size + 1 = b := ⟨_, rfl⟩
    have hga : Hid (w.heap.size < a) := Lib.hid (by omega)
    have hgb : Hid (w.heap.size < b) := Lib.hid (by omega)
    have hab : Hid (a ≠ b) := Lib.hid (by omega)
    rw [hb] at rb3
    rw [ha] at ra3
    simp only [hb]
    simp only [ha]
    clear hst hN1 hgt hT1 ha hb
    replace O3 := Lib.hid O3
    replace ra3 := Lib.hid ra3
    replace rb3 := Lib.hid rb3
    go_wp2_with (first | (rw [wpList_skip_eq]; rotate_left; · rfl) | (refine wpList_store_int (by rfl) 3 _ _ (by rfl) a 1 TTg t.cells (Tg.cells ⟨t.k, n, t.f⟩) .i64 n (by rfl) (by rfl) ra3.out (by simp [Tg.cells]) (by simp [Tg.cells]) infoInt1 ?_; have ra4 := Lib.hid (row_set (cs := (Tg.cells ⟨t.k, n, t.f⟩)) ra3.out); have rb4 := Lib.hid ((setRow_other w3 a b (Tg.cells ⟨t.k, n, t.f⟩) (Ne.symm hab.out)).trans rb3.out); have O4 := Lib.hid (OneT.setRow O3.out hl hga.out (Tg.cells ⟨t.k, n, t.f⟩)); generalize World.setRow w3 a (Tg.cells ⟨t.k, n, t.f⟩) = w4 at *) | (refine wpList_store_int (by rfl) 3 _ _ (by rfl) b 5 TTg t.cells (Tg.cells ⟨t.k, t.who, { t.f with types := n }⟩) .i64 n (by rfl) (by rfl) rb4.out (by simp [Tg.cells]) (by simp [Tg.cells]) infoInt1 ?_; have rb5 := Lib.hid (row_set (cs := (Tg.cells ⟨t.k, t.who, { t.f with types := n }⟩)) rb4.out); have ra5 := Lib.hid ((setRow_other w4 b a (Tg.cells ⟨t.k, t.who, { t.f with types := n }⟩) hab.out).trans ra4.out); have O5 := Lib.hid (OneT.setRow O4.out hl hgb.out (Tg.cells ⟨t.k, t.who, { t.f with types := n }⟩)); generalize World.setRow w4 b (Tg.cells ⟨t.k, t.who, { t.f with types := n }⟩) = w5 at *; have q0 : w5.cell? ⟨w.heap.size, 0, none⟩ = some (.int .i64 t.k) := cell_of_row _ _ 0 _ _ (0, 0) O5.out.2.2) | refine wpList_load_row_g (by rfl) TTg _ (by rfl) b (by rfl) TTg (Tg.cells ⟨t.k, t.who, { t.f with types := n }⟩) (0, 0) _ rb5.out Tryz.underlying27 rfl infoTTg ?_ | (go_at_call 9; (with_reducible refine (tIs_v ⟨t.k, t.who, { t.f with types := n }⟩ false HY _ (OneT.laid O5.out)).mono ?_); rintro e w8 ⟨rfl, hb8⟩; have O8 := Lib.hid (OneT.below O5.out hb8)) | (go_at_call 8; (with_reducible refine (aliveT_any _ (OneT.laid O8.out)).mono ?_); rintro e w9 ⟨rfl, hb9⟩))
    go_ret
    exact ⟨rfl, below_two O8.out.2.1 hb9⟩
  · obtain ⟨O3, rb3, ra3⟩ := two_b hT1 hl hgt
    change Exit.then _ _ _ _ ((((w1.alloc (Obj.cells zeroT.cells TTg)).alloc (Obj.cells zeroT.cells TTg)).drew.setRow (w1.heap.size + 1) t.cells).setRow w1.heap.size t.cells)
    generalize ((((w1.alloc (Obj.cells zeroT.cells TTg)).alloc (Obj.cells zeroT.cells TTg)).drew.setRow (w1.heap.size + 1) t.cells).setRow w1.heap.size t.cells) = w3 at *
    obtain ⟨b, hb⟩ : ∃ b, w1.heap.size = b := ⟨_, rfl⟩
    obtain ⟨a, ha⟩ : ∃ a, w1.heap.size + 1 = a := ⟨_, rfl⟩
    have hga : Hid (w.heap.size < a) := Lib.hid (by omega)
    have hgb : Hid (w.heap.size < b) := Lib.hid (by omega)
    have hab : Hid (a ≠ b) := Lib.hid (by omega)
    rw [ha] at ra3
    rw [hb] at rb3
    simp only [ha]
    simp only [hb]
    clear hst hN1 hgt hT1 ha hb
    replace O3 := Lib.hid O3
    replace ra3 := Lib.hid ra3
    replace rb3 := Lib.hid rb3
    go_wp2_with (first | (rw [wpList_skip_eq]; rotate_left; · rfl) | (refine wpList_store_int (by rfl) 3 _ _ (by rfl) a 1 TTg t.cells (Tg.cells ⟨t.k, n, t.f⟩) .i64 n (by rfl) (by rfl) ra3.out (by simp [Tg.cells]) (by simp [Tg.cells]) infoInt1 ?_; have ra4 := Lib.hid (row_set (cs := (Tg.cells ⟨t.k, n, t.f⟩)) ra3.out); have rb4 := Lib.hid ((setRow_other w3 a b (Tg.cells ⟨t.k, n, t.f⟩) (Ne.symm hab.out)).trans rb3.out); have O4 := Lib.hid (OneT.setRow O3.out hl hga.out (Tg.cells ⟨t.k, n, t.f⟩)); generalize World.setRow w3 a (Tg.cells ⟨t.k, n, t.f⟩) = w4 at *) | (refine wpList_store_int (by rfl) 3 _ _ (by rfl) b 5 TTg t.cells (Tg.cells ⟨t.k, t.who, { t.f with types := n }⟩) .i64 n (by rfl) (by rfl) rb4.out (by simp [Tg.cells]) (by simp [Tg.cells]) infoInt1 ?_; have rb5 := Lib.hid (row_set (cs := (Tg.cells ⟨t.k, t.who, { t.f with types := n }⟩)) rb4.out); have ra5 := Lib.hid ((setRow_other w4 b a (Tg.cells ⟨t.k, t.who, { t.f with types := n }⟩) hab.out).trans ra4.out); have O5 := Lib.hid (OneT.setRow O4.out hl hgb.out (Tg.cells ⟨t.k, t.who, { t.f with types := n }⟩)); generalize World.setRow w4 b (Tg.cells ⟨t.k, t.who, { t.f with types := n }⟩) = w5 at *; have q0 : w5.cell? ⟨w.heap.size, 0, none⟩ = some (.int .i64 t.k) := cell_of_row _ _ 0 _ _ (0, 0) O5.out.2.2) | refine wpList_load_row_g (by rfl) TTg _ (by rfl) b (by rfl) TTg (Tg.cells ⟨t.k, t.who, { t.f with types := n }⟩) (0, 0) _ rb5.out Tryz.underlying27 rfl infoTTg ?_ | (go_at_call 9; (with_reducible refine (tIs_v ⟨t.k, t.who, { t.f with types := n }⟩ false HY _ (OneT.laid O5.out)).mono ?_); rintro e w8 ⟨rfl, hb8⟩; have O8 := Lib.hid (OneT.below O5.out hb8)) | (go_at_call 8; (with_reducible refine (aliveT_any _ (OneT.laid O8.out)).mono ?_); rintro e w9 ⟨rfl, hb9⟩))
    go_ret
    exact ⟨rfl, below_two O8.out.2.1 hb9⟩
set_option maxRecDepth 100000 in
set_option maxHeartbeats 2000000 in
theorem unused_d10 (t : Tg) (n : Int) (hs : ¬ (100 : Int) < t.f.sub.size) (hn : ¬ n < 1) (HV : Hid (tgIs t = true)) (hk : t.k = 10) (HY : Hid (tgIs ⟨t.k, t.who, { t.f with types := n }⟩ = false)) (w : World) (hl : LaidT w) : Calls Tryz.prog 6 #[.agg t.cells, .int .i64 n] w fun e w' => e = .returned (.bool true) ∧ Below w.heap.size w w' := by
  have e8 : (t.k == 8) = false := by rw [hk]; rfl
  have e10 : (t.k == 10) = true := by simpa using hk
  clear hk
  have r0 := Lib.hid (heap_alloc_new w (.cells t.cells TTg))
  have q9 : (w.alloc (.cells t.cells TTg)).cell? ⟨w.heap.size, 9, none⟩ = some (.string t.f.sub) := cell_of_row _ _ 9 _ _ (0, 0) r0.out
  have hl1 := hl.alloc (.cells t.cells TTg)
  have k0 : Hid (Below w.heap.size w (w.alloc (.cells t.cells TTg))) := Lib.hid ((Below.refl _ _).alloc (Nat.le_refl _) _)
  have hld := fun (w' : World) (h : w'.heap[w.heap.size]? = some (.cells t.cells TTg)) => load_tg t w.heap.size w' h
  go_enter Tryz.func6, Tryz.ntmps6
  go_upto_region 3 with (first | (rw [wpList_skip_eq]; rotate_left; · rfl) | refine wpList_load_row_g (by rfl) TTg _ (by rfl) w.heap.size (by rfl) TTg t.cells (0, 0) _ r0.out Tryz.underlying27 rfl infoTTg ?_ | (go_at_call 9; (with_reducible refine (tIs_v t true HV _ hl1).mono ?_); rintro e w1 ⟨rfl, hb1⟩; have r1 := Lib.hid (blk_below2 hb1 r0.out); have hl2 := hl1.below hb1; have k1 := Lib.hid (below_two k0.out hb1)))
  have hT1 : OneT w t w1 := ⟨hl2, k1.out, r1.out⟩
  have hgt : w.heap.size < w1.heap.size := blk_lt r1.out
  have hN1 : OneN w t w1 w1 := ⟨hT1, Nat.le_refl _, fun g h1 h2 => absurd h2 (by omega)⟩
  have hst := fun (w' : World) (g : Nat) (h : NewT w1 w') (h1 : w1.heap.size ≤ g) (h2 : g < w'.heap.size) => store_new (t := t) w' g h h1 h2
  go_region_held3 (fun w' => LaidT w' ∧ Below w.heap.size w w' ∧ w'.heap[w.heap.size]? = some (.cells t.cells TTg) ∧ NewT w1 w') (exact OneN.open_ (by repeat' (first | exact hN1 | apply OneN.drew | apply OneN.alloc | apply OneN.setRow | exact hl | omega | (simp; omega)))) (fail)
  · obtain ⟨O3, ra3, rb3⟩ := two_a hT1 hl hgt
    change Exit.then _ _ _ _ ((((w1.alloc (Obj.cells zeroT.cells TTg)).alloc (Obj.cells zeroT.cells TTg)).drew.setRow w1.heap.size t.cells).setRow (w1.heap.size + 1) t.cells)
    generalize ((((w1.alloc (Obj.cells zeroT.cells TTg)).alloc (Obj.cells zeroT.cells TTg)).drew.setRow w1.heap.size t.cells).setRow (w1.heap.size + 1) t.cells) = w3 at *
    obtain ⟨a, ha⟩ : ∃ a, w1.heap.size = a := ⟨_, rfl⟩
    obtain ⟨b, hb⟩ : ∃ b, w1.heap.size + 1 = b := ⟨_, rfl⟩
    have hga : Hid (w.heap.size < a) := Lib.hid (by omega)
    have hgb : Hid (w.heap.size < b) := Lib.hid (by omega)
    have hab : Hid (a ≠ b) := Lib.hid (by omega)
    rw [hb] at rb3
    rw [ha] at ra3
    simp only [hb]
    simp only [ha]
    clear hst hN1 hgt hT1 ha hb
    replace O3 := Lib.hid O3
    replace ra3 := Lib.hid ra3
    replace rb3 := Lib.hid rb3
    go_wp2_with (first | (rw [wpList_skip_eq]; rotate_left; · rfl) | (refine wpList_store_int (by rfl) 3 _ _ (by rfl) a 1 TTg t.cells (Tg.cells ⟨t.k, n, t.f⟩) .i64 n (by rfl) (by rfl) ra3.out (by simp [Tg.cells]) (by simp [Tg.cells]) infoInt1 ?_; have ra4 := Lib.hid (row_set (cs := (Tg.cells ⟨t.k, n, t.f⟩)) ra3.out); have rb4 := Lib.hid ((setRow_other w3 a b (Tg.cells ⟨t.k, n, t.f⟩) (Ne.symm hab.out)).trans rb3.out); have O4 := Lib.hid (OneT.setRow O3.out hl hga.out (Tg.cells ⟨t.k, n, t.f⟩)); generalize World.setRow w3 a (Tg.cells ⟨t.k, n, t.f⟩) = w4 at *) | (refine wpList_store_int (by rfl) 3 _ _ (by rfl) b 5 TTg t.cells (Tg.cells ⟨t.k, t.who, { t.f with types := n }⟩) .i64 n (by rfl) (by rfl) rb4.out (by simp [Tg.cells]) (by simp [Tg.cells]) infoInt1 ?_; have rb5 := Lib.hid (row_set (cs := (Tg.cells ⟨t.k, t.who, { t.f with types := n }⟩)) rb4.out); have ra5 := Lib.hid ((setRow_other w4 b a (Tg.cells ⟨t.k, t.who, { t.f with types := n }⟩) hab.out).trans ra4.out); have O5 := Lib.hid (OneT.setRow O4.out hl hgb.out (Tg.cells ⟨t.k, t.who, { t.f with types := n }⟩)); generalize World.setRow w4 b (Tg.cells ⟨t.k, t.who, { t.f with types := n }⟩) = w5 at *; have q0 : w5.cell? ⟨w.heap.size, 0, none⟩ = some (.int .i64 t.k) := cell_of_row _ _ 0 _ _ (0, 0) O5.out.2.2) | refine wpList_load_row_g (by rfl) TTg _ (by rfl) b (by rfl) TTg (Tg.cells ⟨t.k, t.who, { t.f with types := n }⟩) (0, 0) _ rb5.out Tryz.underlying27 rfl infoTTg ?_ | (go_at_call 9; (with_reducible refine (tIs_v ⟨t.k, t.who, { t.f with types := n }⟩ false HY _ (OneT.laid O5.out)).mono ?_); rintro e w8 ⟨rfl, hb8⟩; have O8 := Lib.hid (OneT.below O5.out hb8)) | (go_at_call 8; (with_reducible refine (aliveT_any _ (OneT.laid O8.out)).mono ?_); rintro e w9 ⟨rfl, hb9⟩))
    go_ret
    exact ⟨rfl, below_two O8.out.2.1 hb9⟩
  · obtain ⟨O3, rb3, ra3⟩ := two_b hT1 hl hgt
    change Exit.then _ _ _ _ ((((w1.alloc (Obj.cells zeroT.cells TTg)).alloc (Obj.cells zeroT.cells TTg)).drew.setRow (w1.heap.size + 1) t.cells).setRow w1.heap.size t.cells)
    generalize ((((w1.alloc (Obj.cells zeroT.cells TTg)).alloc (Obj.cells zeroT.cells TTg)).drew.setRow (w1.heap.size + 1) t.cells).setRow w1.heap.size t.cells) = w3 at *
    obtain ⟨b, hb⟩ : ∃ b, w1.heap.size = b := ⟨_, rfl⟩
    obtain ⟨a, ha⟩ : ∃ a, w1.heap.size + 1 = a := ⟨_, rfl⟩
    have hga : Hid (w.heap.size < a) := Lib.hid (by omega)
    have hgb : Hid (w.heap.size < b) := Lib.hid (by omega)
    have hab : Hid (a ≠ b) := Lib.hid (by omega)
    rw [ha] at ra3
    rw [hb] at rb3
    simp only [ha]
    simp only [hb]
    clear hst hN1 hgt hT1 ha hb
    replace O3 := Lib.hid O3
    replace ra3 := Lib.hid ra3
    replace rb3 := Lib.hid rb3
    go_wp2_with (first | (rw [wpList_skip_eq]; rotate_left; · rfl) | (refine wpList_store_int (by rfl) 3 _ _ (by rfl) a 1 TTg t.cells (Tg.cells ⟨t.k, n, t.f⟩) .i64 n (by rfl) (by rfl) ra3.out (by simp [Tg.cells]) (by simp [Tg.cells]) infoInt1 ?_; have ra4 := Lib.hid (row_set (cs := (Tg.cells ⟨t.k, n, t.f⟩)) ra3.out); have rb4 := Lib.hid ((setRow_other w3 a b (Tg.cells ⟨t.k, n, t.f⟩) (Ne.symm hab.out)).trans rb3.out); have O4 := Lib.hid (OneT.setRow O3.out hl hga.out (Tg.cells ⟨t.k, n, t.f⟩)); generalize World.setRow w3 a (Tg.cells ⟨t.k, n, t.f⟩) = w4 at *) | (refine wpList_store_int (by rfl) 3 _ _ (by rfl) b 5 TTg t.cells (Tg.cells ⟨t.k, t.who, { t.f with types := n }⟩) .i64 n (by rfl) (by rfl) rb4.out (by simp [Tg.cells]) (by simp [Tg.cells]) infoInt1 ?_; have rb5 := Lib.hid (row_set (cs := (Tg.cells ⟨t.k, t.who, { t.f with types := n }⟩)) rb4.out); have ra5 := Lib.hid ((setRow_other w4 b a (Tg.cells ⟨t.k, t.who, { t.f with types := n }⟩) hab.out).trans ra4.out); have O5 := Lib.hid (OneT.setRow O4.out hl hgb.out (Tg.cells ⟨t.k, t.who, { t.f with types := n }⟩)); generalize World.setRow w4 b (Tg.cells ⟨t.k, t.who, { t.f with types := n }⟩) = w5 at *; have q0 : w5.cell? ⟨w.heap.size, 0, none⟩ = some (.int .i64 t.k) := cell_of_row _ _ 0 _ _ (0, 0) O5.out.2.2) | refine wpList_load_row_g (by rfl) TTg _ (by rfl) b (by rfl) TTg (Tg.cells ⟨t.k, t.who, { t.f with types := n }⟩) (0, 0) _ rb5.out Tryz.underlying27 rfl infoTTg ?_ | (go_at_call 9; (with_reducible refine (tIs_v ⟨t.k, t.who, { t.f with types := n }⟩ false HY _ (OneT.laid O5.out)).mono ?_); rintro e w8 ⟨rfl, hb8⟩; have O8 := Lib.hid (OneT.below O5.out hb8)) | (go_at_call 8; (with_reducible refine (aliveT_any _ (OneT.laid O8.out)).mono ?_); rintro e w9 ⟨rfl, hb9⟩))
    go_ret
    exact ⟨rfl, below_two O8.out.2.1 hb9⟩
set_option maxRecDepth 100000 in
set_option maxHeartbeats 2000000 in
theorem unused_d11 (t : Tg) (n : Int) (hs : ¬ (100 : Int) < t.f.sub.size) (hn : ¬ n < 1) (HV : Hid (tgIs t = true)) (hk : t.k = 11) (HY : Hid (tgIs ⟨t.k, t.who, { t.f with types := n }⟩ = false)) (w : World) (hl : LaidT w) : Calls Tryz.prog 6 #[.agg t.cells, .int .i64 n] w fun e w' => e = .returned (.bool true) ∧ Below w.heap.size w w' := by
  have e8 : (t.k == 8) = false := by rw [hk]; rfl
  have e10 : (t.k == 10) = false := by rw [hk]; rfl
  have e11 : (t.k == 11) = true := by simpa using hk
  clear hk
  have r0 := Lib.hid (heap_alloc_new w (.cells t.cells TTg))
  have q9 : (w.alloc (.cells t.cells TTg)).cell? ⟨w.heap.size, 9, none⟩ = some (.string t.f.sub) := cell_of_row _ _ 9 _ _ (0, 0) r0.out
  have hl1 := hl.alloc (.cells t.cells TTg)
  have k0 : Hid (Below w.heap.size w (w.alloc (.cells t.cells TTg))) := Lib.hid ((Below.refl _ _).alloc (Nat.le_refl _) _)
  have hld := fun (w' : World) (h : w'.heap[w.heap.size]? = some (.cells t.cells TTg)) => load_tg t w.heap.size w' h
  go_enter Tryz.func6, Tryz.ntmps6
  go_upto_region 3 with (first | (rw [wpList_skip_eq]; rotate_left; · rfl) | refine wpList_load_row_g (by rfl) TTg _ (by rfl) w.heap.size (by rfl) TTg t.cells (0, 0) _ r0.out Tryz.underlying27 rfl infoTTg ?_ | (go_at_call 9; (with_reducible refine (tIs_v t true HV _ hl1).mono ?_); rintro e w1 ⟨rfl, hb1⟩; have r1 := Lib.hid (blk_below2 hb1 r0.out); have hl2 := hl1.below hb1; have k1 := Lib.hid (below_two k0.out hb1)))
  have hT1 : OneT w t w1 := ⟨hl2, k1.out, r1.out⟩
  have hgt : w.heap.size < w1.heap.size := blk_lt r1.out
  have hN1 : OneN w t w1 w1 := ⟨hT1, Nat.le_refl _, fun g h1 h2 => absurd h2 (by omega)⟩
  have hst := fun (w' : World) (g : Nat) (h : NewT w1 w') (h1 : w1.heap.size ≤ g) (h2 : g < w'.heap.size) => store_new (t := t) w' g h h1 h2
  go_region_held3 (fun w' => LaidT w' ∧ Below w.heap.size w w' ∧ w'.heap[w.heap.size]? = some (.cells t.cells TTg) ∧ NewT w1 w') (exact OneN.open_ (by repeat' (first | exact hN1 | apply OneN.drew | apply OneN.alloc | apply OneN.setRow | exact hl | omega | (simp; omega)))) (fail)
  · obtain ⟨O3, ra3, rb3⟩ := two_a hT1 hl hgt
    change Exit.then _ _ _ _ ((((w1.alloc (Obj.cells zeroT.cells TTg)).alloc (Obj.cells zeroT.cells TTg)).drew.setRow w1.heap.size t.cells).setRow (w1.heap.size + 1) t.cells)
    generalize ((((w1.alloc (Obj.cells zeroT.cells TTg)).alloc (Obj.cells zeroT.cells TTg)).drew.setRow w1.heap.size t.cells).setRow (w1.heap.size + 1) t.cells) = w3 at *
    obtain ⟨a, ha⟩ : ∃ a, w1.heap.size = a := ⟨_, rfl⟩
    obtain ⟨b, hb⟩ : ∃ b, w1.heap.size + 1 = b := ⟨_, rfl⟩
    have hga : Hid (w.heap.size < a) := Lib.hid (by omega)
    have hgb : Hid (w.heap.size < b) := Lib.hid (by omega)
    have hab : Hid (a ≠ b) := Lib.hid (by omega)
    rw [hb] at rb3
    rw [ha] at ra3
    simp only [hb]
    simp only [ha]
    clear hst hN1 hgt hT1 ha hb
    replace O3 := Lib.hid O3
    replace ra3 := Lib.hid ra3
    replace rb3 := Lib.hid rb3
    go_wp2_with (first | (rw [wpList_skip_eq]; rotate_left; · rfl) | (refine wpList_store_int (by rfl) 3 _ _ (by rfl) a 1 TTg t.cells (Tg.cells ⟨t.k, n, t.f⟩) .i64 n (by rfl) (by rfl) ra3.out (by simp [Tg.cells]) (by simp [Tg.cells]) infoInt1 ?_; have ra4 := Lib.hid (row_set (cs := (Tg.cells ⟨t.k, n, t.f⟩)) ra3.out); have rb4 := Lib.hid ((setRow_other w3 a b (Tg.cells ⟨t.k, n, t.f⟩) (Ne.symm hab.out)).trans rb3.out); have O4 := Lib.hid (OneT.setRow O3.out hl hga.out (Tg.cells ⟨t.k, n, t.f⟩)); generalize World.setRow w3 a (Tg.cells ⟨t.k, n, t.f⟩) = w4 at *) | (refine wpList_store_int (by rfl) 3 _ _ (by rfl) b 5 TTg t.cells (Tg.cells ⟨t.k, t.who, { t.f with types := n }⟩) .i64 n (by rfl) (by rfl) rb4.out (by simp [Tg.cells]) (by simp [Tg.cells]) infoInt1 ?_; have rb5 := Lib.hid (row_set (cs := (Tg.cells ⟨t.k, t.who, { t.f with types := n }⟩)) rb4.out); have ra5 := Lib.hid ((setRow_other w4 b a (Tg.cells ⟨t.k, t.who, { t.f with types := n }⟩) hab.out).trans ra4.out); have O5 := Lib.hid (OneT.setRow O4.out hl hgb.out (Tg.cells ⟨t.k, t.who, { t.f with types := n }⟩)); generalize World.setRow w4 b (Tg.cells ⟨t.k, t.who, { t.f with types := n }⟩) = w5 at *; have q0 : w5.cell? ⟨w.heap.size, 0, none⟩ = some (.int .i64 t.k) := cell_of_row _ _ 0 _ _ (0, 0) O5.out.2.2) | refine wpList_load_row_g (by rfl) TTg _ (by rfl) b (by rfl) TTg (Tg.cells ⟨t.k, t.who, { t.f with types := n }⟩) (0, 0) _ rb5.out Tryz.underlying27 rfl infoTTg ?_ | (go_at_call 9; (with_reducible refine (tIs_v ⟨t.k, t.who, { t.f with types := n }⟩ false HY _ (OneT.laid O5.out)).mono ?_); rintro e w8 ⟨rfl, hb8⟩; have O8 := Lib.hid (OneT.below O5.out hb8)) | (go_at_call 8; (with_reducible refine (aliveT_any _ (OneT.laid O8.out)).mono ?_); rintro e w9 ⟨rfl, hb9⟩))
    go_ret
    exact ⟨rfl, below_two O8.out.2.1 hb9⟩
  · obtain ⟨O3, rb3, ra3⟩ := two_b hT1 hl hgt
    change Exit.then _ _ _ _ ((((w1.alloc (Obj.cells zeroT.cells TTg)).alloc (Obj.cells zeroT.cells TTg)).drew.setRow (w1.heap.size + 1) t.cells).setRow w1.heap.size t.cells)
    generalize ((((w1.alloc (Obj.cells zeroT.cells TTg)).alloc (Obj.cells zeroT.cells TTg)).drew.setRow (w1.heap.size + 1) t.cells).setRow w1.heap.size t.cells) = w3 at *
    obtain ⟨b, hb⟩ : ∃ b, w1.heap.size = b := ⟨_, rfl⟩
    obtain ⟨a, ha⟩ : ∃ a, w1.heap.size + 1 = a := ⟨_, rfl⟩
    have hga : Hid (w.heap.size < a) := Lib.hid (by omega)
    have hgb : Hid (w.heap.size < b) := Lib.hid (by omega)
    have hab : Hid (a ≠ b) := Lib.hid (by omega)
    rw [ha] at ra3
    rw [hb] at rb3
    simp only [ha]
    simp only [hb]
    clear hst hN1 hgt hT1 ha hb
    replace O3 := Lib.hid O3
    replace ra3 := Lib.hid ra3
    replace rb3 := Lib.hid rb3
    go_wp2_with (first | (rw [wpList_skip_eq]; rotate_left; · rfl) | (refine wpList_store_int (by rfl) 3 _ _ (by rfl) a 1 TTg t.cells (Tg.cells ⟨t.k, n, t.f⟩) .i64 n (by rfl) (by rfl) ra3.out (by simp [Tg.cells]) (by simp [Tg.cells]) infoInt1 ?_; have ra4 := Lib.hid (row_set (cs := (Tg.cells ⟨t.k, n, t.f⟩)) ra3.out); have rb4 := Lib.hid ((setRow_other w3 a b (Tg.cells ⟨t.k, n, t.f⟩) (Ne.symm hab.out)).trans rb3.out); have O4 := Lib.hid (OneT.setRow O3.out hl hga.out (Tg.cells ⟨t.k, n, t.f⟩)); generalize World.setRow w3 a (Tg.cells ⟨t.k, n, t.f⟩) = w4 at *) | (refine wpList_store_int (by rfl) 3 _ _ (by rfl) b 5 TTg t.cells (Tg.cells ⟨t.k, t.who, { t.f with types := n }⟩) .i64 n (by rfl) (by rfl) rb4.out (by simp [Tg.cells]) (by simp [Tg.cells]) infoInt1 ?_; have rb5 := Lib.hid (row_set (cs := (Tg.cells ⟨t.k, t.who, { t.f with types := n }⟩)) rb4.out); have ra5 := Lib.hid ((setRow_other w4 b a (Tg.cells ⟨t.k, t.who, { t.f with types := n }⟩) hab.out).trans ra4.out); have O5 := Lib.hid (OneT.setRow O4.out hl hgb.out (Tg.cells ⟨t.k, t.who, { t.f with types := n }⟩)); generalize World.setRow w4 b (Tg.cells ⟨t.k, t.who, { t.f with types := n }⟩) = w5 at *; have q0 : w5.cell? ⟨w.heap.size, 0, none⟩ = some (.int .i64 t.k) := cell_of_row _ _ 0 _ _ (0, 0) O5.out.2.2) | refine wpList_load_row_g (by rfl) TTg _ (by rfl) b (by rfl) TTg (Tg.cells ⟨t.k, t.who, { t.f with types := n }⟩) (0, 0) _ rb5.out Tryz.underlying27 rfl infoTTg ?_ | (go_at_call 9; (with_reducible refine (tIs_v ⟨t.k, t.who, { t.f with types := n }⟩ false HY _ (OneT.laid O5.out)).mono ?_); rintro e w8 ⟨rfl, hb8⟩; have O8 := Lib.hid (OneT.below O5.out hb8)) | (go_at_call 8; (with_reducible refine (aliveT_any _ (OneT.laid O8.out)).mono ?_); rintro e w9 ⟨rfl, hb9⟩))
    go_ret
    exact ⟨rfl, below_two O8.out.2.1 hb9⟩
set_option maxRecDepth 100000 in
set_option maxHeartbeats 2000000 in
theorem unused_d12 (t : Tg) (n : Int) (hs : ¬ (100 : Int) < t.f.sub.size) (hn : ¬ n < 1) (HV : Hid (tgIs t = true)) (hk : t.k = 12) (HY : Hid (tgIs ⟨t.k, t.who, { t.f with types := n }⟩ = false)) (w : World) (hl : LaidT w) : Calls Tryz.prog 6 #[.agg t.cells, .int .i64 n] w fun e w' => e = .returned (.bool true) ∧ Below w.heap.size w w' := by
  have e8 : (t.k == 8) = false := by rw [hk]; rfl
  have e10 : (t.k == 10) = false := by rw [hk]; rfl
  have e11 : (t.k == 11) = false := by rw [hk]; rfl
  have e12 : (t.k == 12) = true := by simpa using hk
  clear hk
  have r0 := Lib.hid (heap_alloc_new w (.cells t.cells TTg))
  have q9 : (w.alloc (.cells t.cells TTg)).cell? ⟨w.heap.size, 9, none⟩ = some (.string t.f.sub) := cell_of_row _ _ 9 _ _ (0, 0) r0.out
  have hl1 := hl.alloc (.cells t.cells TTg)
  have k0 : Hid (Below w.heap.size w (w.alloc (.cells t.cells TTg))) := Lib.hid ((Below.refl _ _).alloc (Nat.le_refl _) _)
  have hld := fun (w' : World) (h : w'.heap[w.heap.size]? = some (.cells t.cells TTg)) => load_tg t w.heap.size w' h
  go_enter Tryz.func6, Tryz.ntmps6
  go_upto_region 3 with (first | (rw [wpList_skip_eq]; rotate_left; · rfl) | refine wpList_load_row_g (by rfl) TTg _ (by rfl) w.heap.size (by rfl) TTg t.cells (0, 0) _ r0.out Tryz.underlying27 rfl infoTTg ?_ | (go_at_call 9; (with_reducible refine (tIs_v t true HV _ hl1).mono ?_); rintro e w1 ⟨rfl, hb1⟩; have r1 := Lib.hid (blk_below2 hb1 r0.out); have hl2 := hl1.below hb1; have k1 := Lib.hid (below_two k0.out hb1)))
  have hT1 : OneT w t w1 := ⟨hl2, k1.out, r1.out⟩
  have hgt : w.heap.size < w1.heap.size := blk_lt r1.out
  have hN1 : OneN w t w1 w1 := ⟨hT1, Nat.le_refl _, fun g h1 h2 => absurd h2 (by omega)⟩
  have hst := fun (w' : World) (g : Nat) (h : NewT w1 w') (h1 : w1.heap.size ≤ g) (h2 : g < w'.heap.size) => store_new (t := t) w' g h h1 h2
  go_region_held3 (fun w' => LaidT w' ∧ Below w.heap.size w w' ∧ w'.heap[w.heap.size]? = some (.cells t.cells TTg) ∧ NewT w1 w') (exact OneN.open_ (by repeat' (first | exact hN1 | apply OneN.drew | apply OneN.alloc | apply OneN.setRow | exact hl | omega | (simp; omega)))) (fail)
  · obtain ⟨O3, ra3, rb3⟩ := two_a hT1 hl hgt
    change Exit.then _ _ _ _ ((((w1.alloc (Obj.cells zeroT.cells TTg)).alloc (Obj.cells zeroT.cells TTg)).drew.setRow w1.heap.size t.cells).setRow (w1.heap.size + 1) t.cells)
    generalize ((((w1.alloc (Obj.cells zeroT.cells TTg)).alloc (Obj.cells zeroT.cells TTg)).drew.setRow w1.heap.size t.cells).setRow (w1.heap.size + 1) t.cells) = w3 at *
    obtain ⟨a, ha⟩ : ∃ a, w1.heap.size = a := ⟨_, rfl⟩
    obtain ⟨b, hb⟩ : ∃ b, w1.heap.size + 1 = b := ⟨_, rfl⟩
    have hga : Hid (w.heap.size < a) := Lib.hid (by omega)
    have hgb : Hid (w.heap.size < b) := Lib.hid (by omega)
    have hab : Hid (a ≠ b) := Lib.hid (by omega)
    rw [hb] at rb3
    rw [ha] at ra3
    simp only [hb]
    simp only [ha]
    clear hst hN1 hgt hT1 ha hb
    replace O3 := Lib.hid O3
    replace ra3 := Lib.hid ra3
    replace rb3 := Lib.hid rb3
    go_wp2_with (first | (rw [wpList_skip_eq]; rotate_left; · rfl) | (refine wpList_store_int (by rfl) 3 _ _ (by rfl) a 1 TTg t.cells (Tg.cells ⟨t.k, n, t.f⟩) .i64 n (by rfl) (by rfl) ra3.out (by simp [Tg.cells]) (by simp [Tg.cells]) infoInt1 ?_; have ra4 := Lib.hid (row_set (cs := (Tg.cells ⟨t.k, n, t.f⟩)) ra3.out); have rb4 := Lib.hid ((setRow_other w3 a b (Tg.cells ⟨t.k, n, t.f⟩) (Ne.symm hab.out)).trans rb3.out); have O4 := Lib.hid (OneT.setRow O3.out hl hga.out (Tg.cells ⟨t.k, n, t.f⟩)); generalize World.setRow w3 a (Tg.cells ⟨t.k, n, t.f⟩) = w4 at *) | (refine wpList_store_int (by rfl) 3 _ _ (by rfl) b 5 TTg t.cells (Tg.cells ⟨t.k, t.who, { t.f with types := n }⟩) .i64 n (by rfl) (by rfl) rb4.out (by simp [Tg.cells]) (by simp [Tg.cells]) infoInt1 ?_; have rb5 := Lib.hid (row_set (cs := (Tg.cells ⟨t.k, t.who, { t.f with types := n }⟩)) rb4.out); have ra5 := Lib.hid ((setRow_other w4 b a (Tg.cells ⟨t.k, t.who, { t.f with types := n }⟩) hab.out).trans ra4.out); have O5 := Lib.hid (OneT.setRow O4.out hl hgb.out (Tg.cells ⟨t.k, t.who, { t.f with types := n }⟩)); generalize World.setRow w4 b (Tg.cells ⟨t.k, t.who, { t.f with types := n }⟩) = w5 at *; have q0 : w5.cell? ⟨w.heap.size, 0, none⟩ = some (.int .i64 t.k) := cell_of_row _ _ 0 _ _ (0, 0) O5.out.2.2) | refine wpList_load_row_g (by rfl) TTg _ (by rfl) b (by rfl) TTg (Tg.cells ⟨t.k, t.who, { t.f with types := n }⟩) (0, 0) _ rb5.out Tryz.underlying27 rfl infoTTg ?_ | (go_at_call 9; (with_reducible refine (tIs_v ⟨t.k, t.who, { t.f with types := n }⟩ false HY _ (OneT.laid O5.out)).mono ?_); rintro e w8 ⟨rfl, hb8⟩; have O8 := Lib.hid (OneT.below O5.out hb8)) | (go_at_call 8; (with_reducible refine (aliveT_any _ (OneT.laid O8.out)).mono ?_); rintro e w9 ⟨rfl, hb9⟩))
    go_ret
    exact ⟨rfl, below_two O8.out.2.1 hb9⟩
  · obtain ⟨O3, rb3, ra3⟩ := two_b hT1 hl hgt
    change Exit.then _ _ _ _ ((((w1.alloc (Obj.cells zeroT.cells TTg)).alloc (Obj.cells zeroT.cells TTg)).drew.setRow (w1.heap.size + 1) t.cells).setRow w1.heap.size t.cells)
    generalize ((((w1.alloc (Obj.cells zeroT.cells TTg)).alloc (Obj.cells zeroT.cells TTg)).drew.setRow (w1.heap.size + 1) t.cells).setRow w1.heap.size t.cells) = w3 at *
    obtain ⟨b, hb⟩ : ∃ b, w1.heap.size = b := ⟨_, rfl⟩
    obtain ⟨a, ha⟩ : ∃ a, w1.heap.size + 1 = a := ⟨_, rfl⟩
    have hga : Hid (w.heap.size < a) := Lib.hid (by omega)
    have hgb : Hid (w.heap.size < b) := Lib.hid (by omega)
    have hab : Hid (a ≠ b) := Lib.hid (by omega)
    rw [ha] at ra3
    rw [hb] at rb3
    simp only [ha]
    simp only [hb]
    clear hst hN1 hgt hT1 ha hb
    replace O3 := Lib.hid O3
    replace ra3 := Lib.hid ra3
    replace rb3 := Lib.hid rb3
    go_wp2_with (first | (rw [wpList_skip_eq]; rotate_left; · rfl) | (refine wpList_store_int (by rfl) 3 _ _ (by rfl) a 1 TTg t.cells (Tg.cells ⟨t.k, n, t.f⟩) .i64 n (by rfl) (by rfl) ra3.out (by simp [Tg.cells]) (by simp [Tg.cells]) infoInt1 ?_; have ra4 := Lib.hid (row_set (cs := (Tg.cells ⟨t.k, n, t.f⟩)) ra3.out); have rb4 := Lib.hid ((setRow_other w3 a b (Tg.cells ⟨t.k, n, t.f⟩) (Ne.symm hab.out)).trans rb3.out); have O4 := Lib.hid (OneT.setRow O3.out hl hga.out (Tg.cells ⟨t.k, n, t.f⟩)); generalize World.setRow w3 a (Tg.cells ⟨t.k, n, t.f⟩) = w4 at *) | (refine wpList_store_int (by rfl) 3 _ _ (by rfl) b 5 TTg t.cells (Tg.cells ⟨t.k, t.who, { t.f with types := n }⟩) .i64 n (by rfl) (by rfl) rb4.out (by simp [Tg.cells]) (by simp [Tg.cells]) infoInt1 ?_; have rb5 := Lib.hid (row_set (cs := (Tg.cells ⟨t.k, t.who, { t.f with types := n }⟩)) rb4.out); have ra5 := Lib.hid ((setRow_other w4 b a (Tg.cells ⟨t.k, t.who, { t.f with types := n }⟩) hab.out).trans ra4.out); have O5 := Lib.hid (OneT.setRow O4.out hl hgb.out (Tg.cells ⟨t.k, t.who, { t.f with types := n }⟩)); generalize World.setRow w4 b (Tg.cells ⟨t.k, t.who, { t.f with types := n }⟩) = w5 at *; have q0 : w5.cell? ⟨w.heap.size, 0, none⟩ = some (.int .i64 t.k) := cell_of_row _ _ 0 _ _ (0, 0) O5.out.2.2) | refine wpList_load_row_g (by rfl) TTg _ (by rfl) b (by rfl) TTg (Tg.cells ⟨t.k, t.who, { t.f with types := n }⟩) (0, 0) _ rb5.out Tryz.underlying27 rfl infoTTg ?_ | (go_at_call 9; (with_reducible refine (tIs_v ⟨t.k, t.who, { t.f with types := n }⟩ false HY _ (OneT.laid O5.out)).mono ?_); rintro e w8 ⟨rfl, hb8⟩; have O8 := Lib.hid (OneT.below O5.out hb8)) | (go_at_call 8; (with_reducible refine (aliveT_any _ (OneT.laid O8.out)).mono ?_); rintro e w9 ⟨rfl, hb9⟩))
    go_ret
    exact ⟨rfl, below_two O8.out.2.1 hb9⟩
set_option maxRecDepth 100000 in
set_option maxHeartbeats 2000000 in
theorem unused_d13 (t : Tg) (n : Int) (hs : ¬ (100 : Int) < t.f.sub.size) (hn : ¬ n < 1) (HV : Hid (tgIs t = true)) (hk : t.k = 13) (HY : Hid (tgIs ⟨t.k, t.who, { t.f with types := n }⟩ = false)) (w : World) (hl : LaidT w) : Calls Tryz.prog 6 #[.agg t.cells, .int .i64 n] w fun e w' => e = .returned (.bool true) ∧ Below w.heap.size w w' := by
  have e8 : (t.k == 8) = false := by rw [hk]; rfl
  have e10 : (t.k == 10) = false := by rw [hk]; rfl
  have e11 : (t.k == 11) = false := by rw [hk]; rfl
  have e12 : (t.k == 12) = false := by rw [hk]; rfl
  have e13 : (t.k == 13) = true := by simpa using hk
  clear hk
  have r0 := Lib.hid (heap_alloc_new w (.cells t.cells TTg))
  have q9 : (w.alloc (.cells t.cells TTg)).cell? ⟨w.heap.size, 9, none⟩ = some (.string t.f.sub) := cell_of_row _ _ 9 _ _ (0, 0) r0.out
  have hl1 := hl.alloc (.cells t.cells TTg)
  have k0 : Hid (Below w.heap.size w (w.alloc (.cells t.cells TTg))) := Lib.hid ((Below.refl _ _).alloc (Nat.le_refl _) _)
  have hld := fun (w' : World) (h : w'.heap[w.heap.size]? = some (.cells t.cells TTg)) => load_tg t w.heap.size w' h
  go_enter Tryz.func6, Tryz.ntmps6
  go_upto_region 3 with (first | (rw [wpList_skip_eq]; rotate_left; · rfl) | refine wpList_load_row_g (by rfl) TTg _ (by rfl) w.heap.size (by rfl) TTg t.cells (0, 0) _ r0.out Tryz.underlying27 rfl infoTTg ?_ | (go_at_call 9; (with_reducible refine (tIs_v t true HV _ hl1).mono ?_); rintro e w1 ⟨rfl, hb1⟩; have r1 := Lib.hid (blk_below2 hb1 r0.out); have hl2 := hl1.below hb1; have k1 := Lib.hid (below_two k0.out hb1)))
  have hT1 : OneT w t w1 := ⟨hl2, k1.out, r1.out⟩
  have hgt : w.heap.size < w1.heap.size := blk_lt r1.out
  have hN1 : OneN w t w1 w1 := ⟨hT1, Nat.le_refl _, fun g h1 h2 => absurd h2 (by omega)⟩
  have hst := fun (w' : World) (g : Nat) (h : NewT w1 w') (h1 : w1.heap.size ≤ g) (h2 : g < w'.heap.size) => store_new (t := t) w' g h h1 h2
  go_region_held3 (fun w' => LaidT w' ∧ Below w.heap.size w w' ∧ w'.heap[w.heap.size]? = some (.cells t.cells TTg) ∧ NewT w1 w') (exact OneN.open_ (by repeat' (first | exact hN1 | apply OneN.drew | apply OneN.alloc | apply OneN.setRow | exact hl | omega | (simp; omega)))) (fail)
  · obtain ⟨O3, ra3, rb3⟩ := two_a hT1 hl hgt
    change Exit.then _ _ _ _ ((((w1.alloc (Obj.cells zeroT.cells TTg)).alloc (Obj.cells zeroT.cells TTg)).drew.setRow w1.heap.size t.cells).setRow (w1.heap.size + 1) t.cells)
    generalize ((((w1.alloc (Obj.cells zeroT.cells TTg)).alloc (Obj.cells zeroT.cells TTg)).drew.setRow w1.heap.size t.cells).setRow (w1.heap.size + 1) t.cells) = w3 at *
    obtain ⟨a, ha⟩ : ∃ a, w1.heap.size = a := ⟨_, rfl⟩
    obtain ⟨b, hb⟩ : ∃ b, w1.heap.size + 1 = b := ⟨_, rfl⟩
    have hga : Hid (w.heap.size < a) := Lib.hid (by omega)
    have hgb : Hid (w.heap.size < b) := Lib.hid (by omega)
    have hab : Hid (a ≠ b) := Lib.hid (by omega)
    rw [hb] at rb3
    rw [ha] at ra3
    simp only [hb]
    simp only [ha]
    clear hst hN1 hgt hT1 ha hb
    replace O3 := Lib.hid O3
    replace ra3 := Lib.hid ra3
    replace rb3 := Lib.hid rb3
    go_wp2_with (first | (rw [wpList_skip_eq]; rotate_left; · rfl) | (refine wpList_store_int (by rfl) 3 _ _ (by rfl) a 1 TTg t.cells (Tg.cells ⟨t.k, n, t.f⟩) .i64 n (by rfl) (by rfl) ra3.out (by simp [Tg.cells]) (by simp [Tg.cells]) infoInt1 ?_; have ra4 := Lib.hid (row_set (cs := (Tg.cells ⟨t.k, n, t.f⟩)) ra3.out); have rb4 := Lib.hid ((setRow_other w3 a b (Tg.cells ⟨t.k, n, t.f⟩) (Ne.symm hab.out)).trans rb3.out); have O4 := Lib.hid (OneT.setRow O3.out hl hga.out (Tg.cells ⟨t.k, n, t.f⟩)); generalize World.setRow w3 a (Tg.cells ⟨t.k, n, t.f⟩) = w4 at *) | (refine wpList_store_int (by rfl) 3 _ _ (by rfl) b 5 TTg t.cells (Tg.cells ⟨t.k, t.who, { t.f with types := n }⟩) .i64 n (by rfl) (by rfl) rb4.out (by simp [Tg.cells]) (by simp [Tg.cells]) infoInt1 ?_; have rb5 := Lib.hid (row_set (cs := (Tg.cells ⟨t.k, t.who, { t.f with types := n }⟩)) rb4.out); have ra5 := Lib.hid ((setRow_other w4 b a (Tg.cells ⟨t.k, t.who, { t.f with types := n }⟩) hab.out).trans ra4.out); have O5 := Lib.hid (OneT.setRow O4.out hl hgb.out (Tg.cells ⟨t.k, t.who, { t.f with types := n }⟩)); generalize World.setRow w4 b (Tg.cells ⟨t.k, t.who, { t.f with types := n }⟩) = w5 at *; have q0 : w5.cell? ⟨w.heap.size, 0, none⟩ = some (.int .i64 t.k) := cell_of_row _ _ 0 _ _ (0, 0) O5.out.2.2) | refine wpList_load_row_g (by rfl) TTg _ (by rfl) b (by rfl) TTg (Tg.cells ⟨t.k, t.who, { t.f with types := n }⟩) (0, 0) _ rb5.out Tryz.underlying27 rfl infoTTg ?_ | (go_at_call 9; (with_reducible refine (tIs_v ⟨t.k, t.who, { t.f with types := n }⟩ false HY _ (OneT.laid O5.out)).mono ?_); rintro e w8 ⟨rfl, hb8⟩; have O8 := Lib.hid (OneT.below O5.out hb8)) | (go_at_call 8; (with_reducible refine (aliveT_any _ (OneT.laid O8.out)).mono ?_); rintro e w9 ⟨rfl, hb9⟩))
    go_ret
    exact ⟨rfl, below_two O8.out.2.1 hb9⟩
  · obtain ⟨O3, rb3, ra3⟩ := two_b hT1 hl hgt
    change Exit.then _ _ _ _ ((((w1.alloc (Obj.cells zeroT.cells TTg)).alloc (Obj.cells zeroT.cells TTg)).drew.setRow (w1.heap.size + 1) t.cells).setRow w1.heap.size t.cells)
    generalize ((((w1.alloc (Obj.cells zeroT.cells TTg)).alloc (Obj.cells zeroT.cells TTg)).drew.setRow (w1.heap.size + 1) t.cells).setRow w1.heap.size t.cells) = w3 at *
    obtain ⟨b, hb⟩ : ∃ b, w1.heap.size = b := ⟨_, rfl⟩
    obtain ⟨a, ha⟩ : ∃ a, w1.heap.size + 1 = a := ⟨_, rfl⟩
    have hga : Hid (w.heap.size < a) := Lib.hid (by omega)
    have hgb : Hid (w.heap.size < b) := Lib.hid (by omega)
    have hab : Hid (a ≠ b) := Lib.hid (by omega)
    rw [ha] at ra3
    rw [hb] at rb3
    simp only [ha]
    simp only [hb]
    clear hst hN1 hgt hT1 ha hb
    replace O3 := Lib.hid O3
    replace ra3 := Lib.hid ra3
    replace rb3 := Lib.hid rb3
    go_wp2_with (first | (rw [wpList_skip_eq]; rotate_left; · rfl) | (refine wpList_store_int (by rfl) 3 _ _ (by rfl) a 1 TTg t.cells (Tg.cells ⟨t.k, n, t.f⟩) .i64 n (by rfl) (by rfl) ra3.out (by simp [Tg.cells]) (by simp [Tg.cells]) infoInt1 ?_; have ra4 := Lib.hid (row_set (cs := (Tg.cells ⟨t.k, n, t.f⟩)) ra3.out); have rb4 := Lib.hid ((setRow_other w3 a b (Tg.cells ⟨t.k, n, t.f⟩) (Ne.symm hab.out)).trans rb3.out); have O4 := Lib.hid (OneT.setRow O3.out hl hga.out (Tg.cells ⟨t.k, n, t.f⟩)); generalize World.setRow w3 a (Tg.cells ⟨t.k, n, t.f⟩) = w4 at *) | (refine wpList_store_int (by rfl) 3 _ _ (by rfl) b 5 TTg t.cells (Tg.cells ⟨t.k, t.who, { t.f with types := n }⟩) .i64 n (by rfl) (by rfl) rb4.out (by simp [Tg.cells]) (by simp [Tg.cells]) infoInt1 ?_; have rb5 := Lib.hid (row_set (cs := (Tg.cells ⟨t.k, t.who, { t.f with types := n }⟩)) rb4.out); have ra5 := Lib.hid ((setRow_other w4 b a (Tg.cells ⟨t.k, t.who, { t.f with types := n }⟩) hab.out).trans ra4.out); have O5 := Lib.hid (OneT.setRow O4.out hl hgb.out (Tg.cells ⟨t.k, t.who, { t.f with types := n }⟩)); generalize World.setRow w4 b (Tg.cells ⟨t.k, t.who, { t.f with types := n }⟩) = w5 at *; have q0 : w5.cell? ⟨w.heap.size, 0, none⟩ = some (.int .i64 t.k) := cell_of_row _ _ 0 _ _ (0, 0) O5.out.2.2) | refine wpList_load_row_g (by rfl) TTg _ (by rfl) b (by rfl) TTg (Tg.cells ⟨t.k, t.who, { t.f with types := n }⟩) (0, 0) _ rb5.out Tryz.underlying27 rfl infoTTg ?_ | (go_at_call 9; (with_reducible refine (tIs_v ⟨t.k, t.who, { t.f with types := n }⟩ false HY _ (OneT.laid O5.out)).mono ?_); rintro e w8 ⟨rfl, hb8⟩; have O8 := Lib.hid (OneT.below O5.out hb8)) | (go_at_call 8; (with_reducible refine (aliveT_any _ (OneT.laid O8.out)).mono ?_); rintro e w9 ⟨rfl, hb9⟩))
    go_ret
    exact ⟨rfl, below_two O8.out.2.1 hb9⟩
set_option maxRecDepth 100000 in
set_option maxHeartbeats 2000000 in
theorem unused_c (t : Tg) (n : Int) (hs : ¬ (100 : Int) < t.f.sub.size) (hn : ¬ n < 1) (HV : Hid (tgIs t = true)) (hk : t.k = 9) (HY : Hid (tgIs ⟨t.k, t.who, { t.f with zone := 0 }⟩ = false)) (w : World) (hl : LaidT w) : Calls Tryz.prog 6 #[.agg t.cells, .int .i64 n] w fun e w' => e = .returned (.bool true) ∧ Below w.heap.size w w' := by
  have e8 : (t.k == 8) = false := by rw [hk]; rfl
  have e10 : (t.k == 10) = false := by rw [hk]; rfl
  have e11 : (t.k == 11) = false := by rw [hk]; rfl
  have e12 : (t.k == 12) = false := by rw [hk]; rfl
  have e13 : (t.k == 13) = false := by rw [hk]; rfl
  have e9 : (t.k == 9) = true := by simpa using hk
  clear hk
  have r0 := Lib.hid (heap_alloc_new w (.cells t.cells TTg))
  have q9 : (w.alloc (.cells t.cells TTg)).cell? ⟨w.heap.size, 9, none⟩ = some (.string t.f.sub) := cell_of_row _ _ 9 _ _ (0, 0) r0.out
  have hl1 := hl.alloc (.cells t.cells TTg)
  have k0 : Hid (Below w.heap.size w (w.alloc (.cells t.cells TTg))) := Lib.hid ((Below.refl _ _).alloc (Nat.le_refl _) _)
  have hld := fun (w' : World) (h : w'.heap[w.heap.size]? = some (.cells t.cells TTg)) => load_tg t w.heap.size w' h
  go_enter Tryz.func6, Tryz.ntmps6
  go_upto_region 3 with (first | (rw [wpList_skip_eq]; rotate_left; · rfl) | refine wpList_load_row_g (by rfl) TTg _ (by rfl) w.heap.size (by rfl) TTg t.cells (0, 0) _ r0.out Tryz.underlying27 rfl infoTTg ?_ | (go_at_call 9; (with_reducible refine (tIs_v t true HV _ hl1).mono ?_); rintro e w1 ⟨rfl, hb1⟩; have r1 := Lib.hid (blk_below2 hb1 r0.out); have hl2 := hl1.below hb1; have k1 := Lib.hid (below_two k0.out hb1)))
  have hT1 : OneT w t w1 := ⟨hl2, k1.out, r1.out⟩
  have hgt : w.heap.size < w1.heap.size := blk_lt r1.out
  have hN1 : OneN w t w1 w1 := ⟨hT1, Nat.le_refl _, fun g h1 h2 => absurd h2 (by omega)⟩
  have hst := fun (w' : World) (g : Nat) (h : NewT w1 w') (h1 : w1.heap.size ≤ g) (h2 : g < w'.heap.size) => store_new (t := t) w' g h h1 h2
  go_region_held3 (fun w' => LaidT w' ∧ Below w.heap.size w w' ∧ w'.heap[w.heap.size]? = some (.cells t.cells TTg) ∧ NewT w1 w') (exact OneN.open_ (by repeat' (first | exact hN1 | apply OneN.drew | apply OneN.alloc | apply OneN.setRow | exact hl | omega | (simp; omega)))) (fail)
  · obtain ⟨O3, ra3, rb3⟩ := two_a hT1 hl hgt
    change Exit.then _ _ _ _ ((((w1.alloc (Obj.cells zeroT.cells TTg)).alloc (Obj.cells zeroT.cells TTg)).drew.setRow w1.heap.size t.cells).setRow (w1.heap.size + 1) t.cells)
    generalize ((((w1.alloc (Obj.cells zeroT.cells TTg)).alloc (Obj.cells zeroT.cells TTg)).drew.setRow w1.heap.size t.cells).setRow (w1.heap.size + 1) t.cells) = w3 at *
    obtain ⟨a, ha⟩ : ∃ a, w1.heap.size = a := ⟨_, rfl⟩
    obtain ⟨b, hb⟩ : ∃ b, w1.heap.size + 1 = b := ⟨_, rfl⟩
    have hga : Hid (w.heap.size < a) := Lib.hid (by omega)
    have hgb : Hid (w.heap.size < b) := Lib.hid (by omega)
    have hab : Hid (a ≠ b) := Lib.hid (by omega)
    rw [hb] at rb3
    rw [ha] at ra3
    simp only [hb]
    simp only [ha]
    clear hst hN1 hgt hT1 ha hb
    replace O3 := Lib.hid O3
    replace ra3 := Lib.hid ra3
    replace rb3 := Lib.hid rb3
    go_wp2_with (first | (rw [wpList_skip_eq]; rotate_left; · rfl) | (refine wpList_store_int (by rfl) 3 _ _ (by rfl) a 1 TTg t.cells (Tg.cells ⟨t.k, n, t.f⟩) .i64 n (by rfl) (by rfl) ra3.out (by simp [Tg.cells]) (by simp [Tg.cells]) infoInt1 ?_; have ra4 := Lib.hid (row_set (cs := (Tg.cells ⟨t.k, n, t.f⟩)) ra3.out); have rb4 := Lib.hid ((setRow_other w3 a b (Tg.cells ⟨t.k, n, t.f⟩) (Ne.symm hab.out)).trans rb3.out); have O4 := Lib.hid (OneT.setRow O3.out hl hga.out (Tg.cells ⟨t.k, n, t.f⟩)); generalize World.setRow w3 a (Tg.cells ⟨t.k, n, t.f⟩) = w4 at *) | (refine wpList_store_int (by rfl) 3 _ _ (by rfl) b 5 TTg t.cells (Tg.cells ⟨t.k, t.who, { t.f with types := n }⟩) .i64 n (by rfl) (by rfl) rb4.out (by simp [Tg.cells]) (by simp [Tg.cells]) infoInt1 ?_; have rb5 := Lib.hid (row_set (cs := (Tg.cells ⟨t.k, t.who, { t.f with types := n }⟩)) rb4.out); have ra5 := Lib.hid ((setRow_other w4 b a (Tg.cells ⟨t.k, t.who, { t.f with types := n }⟩) hab.out).trans ra4.out); have O5 := Lib.hid (OneT.setRow O4.out hl hgb.out (Tg.cells ⟨t.k, t.who, { t.f with types := n }⟩)); generalize World.setRow w4 b (Tg.cells ⟨t.k, t.who, { t.f with types := n }⟩) = w5 at *; have q0 : w5.cell? ⟨w.heap.size, 0, none⟩ = some (.int .i64 t.k) := cell_of_row _ _ 0 _ _ (0, 0) O5.out.2.2) | refine wpList_load_part (by rfl) TF _ (by rfl) w.heap.size 2 (by rfl) TTg t.cells t.f.cells (0, 0) _ O5.out.2.2 (tg_part t) Tryz.underlying25 rfl infoTF ?_ | (refine wpList_store_part (by rfl) TF _ _ (by rfl) b 2 TTg (Tg.cells ⟨t.k, t.who, { t.f with types := n }⟩) t.f.cells (Tg.cells ⟨t.k, t.who, t.f⟩) (by rfl) (by rfl) rb5.out (by simp [Tg.cells, Flt.cells]) (tg_put ⟨t.k, t.who, { t.f with types := n }⟩ t.f) infoTF (cells_one _) ?_; have rb6 := Lib.hid (row_set (cs := (Tg.cells ⟨t.k, t.who, t.f⟩)) rb5.out); have O6 := Lib.hid (OneT.setRow O5.out hl hgb.out (Tg.cells ⟨t.k, t.who, t.f⟩)); generalize World.setRow w5 b (Tg.cells ⟨t.k, t.who, t.f⟩) = w6 at *) | (refine wpList_store_int (by rfl) 3 _ _ (by rfl) b 2 TTg (Tg.cells ⟨t.k, t.who, t.f⟩) (Tg.cells ⟨t.k, t.who, { t.f with zone := 0 }⟩) .i64 0 (by rfl) (by rfl) rb6.out (by simp [Tg.cells]) (by simp [Tg.cells]) infoInt1 ?_; have rb7 := Lib.hid (row_set (cs := (Tg.cells ⟨t.k, t.who, { t.f with zone := 0 }⟩)) rb6.out); have O7 := Lib.hid (OneT.setRow O6.out hl hgb.out (Tg.cells ⟨t.k, t.who, { t.f with zone := 0 }⟩)); generalize World.setRow w6 b (Tg.cells ⟨t.k, t.who, { t.f with zone := 0 }⟩) = w7 at *) | refine wpList_load_row_g (by rfl) TTg _ (by rfl) b (by rfl) TTg (Tg.cells ⟨t.k, t.who, { t.f with zone := 0 }⟩) (0, 0) _ rb7.out Tryz.underlying27 rfl infoTTg ?_ | (go_at_call 9; (with_reducible refine (tIs_v ⟨t.k, t.who, { t.f with zone := 0 }⟩ false HY _ (OneT.laid O7.out)).mono ?_); rintro e w8 ⟨rfl, hb8⟩; have O8 := Lib.hid (OneT.below O7.out hb8)) | (go_at_call 8; (with_reducible refine (aliveT_any _ (OneT.laid O8.out)).mono ?_); rintro e w9 ⟨rfl, hb9⟩))
    go_ret
    exact ⟨rfl, below_two O8.out.2.1 hb9⟩
  · obtain ⟨O3, rb3, ra3⟩ := two_b hT1 hl hgt
    change Exit.then _ _ _ _ ((((w1.alloc (Obj.cells zeroT.cells TTg)).alloc (Obj.cells zeroT.cells TTg)).drew.setRow (w1.heap.size + 1) t.cells).setRow w1.heap.size t.cells)
    generalize ((((w1.alloc (Obj.cells zeroT.cells TTg)).alloc (Obj.cells zeroT.cells TTg)).drew.setRow (w1.heap.size + 1) t.cells).setRow w1.heap.size t.cells) = w3 at *
    obtain ⟨b, hb⟩ : ∃ b, w1.heap.size = b := ⟨_, rfl⟩
    obtain ⟨a, ha⟩ : ∃ a, w1.heap.size + 1 = a := ⟨_, rfl⟩
    have hga : Hid (w.heap.size < a) := Lib.hid (by omega)
    have hgb : Hid (w.heap.size < b) := Lib.hid (by omega)
    have hab : Hid (a ≠ b) := Lib.hid (by omega)
    rw [ha] at ra3
    rw [hb] at rb3
    simp only [ha]
    simp only [hb]
    clear hst hN1 hgt hT1 ha hb
    replace O3 := Lib.hid O3
    replace ra3 := Lib.hid ra3
    replace rb3 := Lib.hid rb3
    go_wp2_with (first | (rw [wpList_skip_eq]; rotate_left; · rfl) | (refine wpList_store_int (by rfl) 3 _ _ (by rfl) a 1 TTg t.cells (Tg.cells ⟨t.k, n, t.f⟩) .i64 n (by rfl) (by rfl) ra3.out (by simp [Tg.cells]) (by simp [Tg.cells]) infoInt1 ?_; have ra4 := Lib.hid (row_set (cs := (Tg.cells ⟨t.k, n, t.f⟩)) ra3.out); have rb4 := Lib.hid ((setRow_other w3 a b (Tg.cells ⟨t.k, n, t.f⟩) (Ne.symm hab.out)).trans rb3.out); have O4 := Lib.hid (OneT.setRow O3.out hl hga.out (Tg.cells ⟨t.k, n, t.f⟩)); generalize World.setRow w3 a (Tg.cells ⟨t.k, n, t.f⟩) = w4 at *) | (refine wpList_store_int (by rfl) 3 _ _ (by rfl) b 5 TTg t.cells (Tg.cells ⟨t.k, t.who, { t.f with types := n }⟩) .i64 n (by rfl) (by rfl) rb4.out (by simp [Tg.cells]) (by simp [Tg.cells]) infoInt1 ?_; have rb5 := Lib.hid (row_set (cs := (Tg.cells ⟨t.k, t.who, { t.f with types := n }⟩)) rb4.out); have ra5 := Lib.hid ((setRow_other w4 b a (Tg.cells ⟨t.k, t.who, { t.f with types := n }⟩) hab.out).trans ra4.out); have O5 := Lib.hid (OneT.setRow O4.out hl hgb.out (Tg.cells ⟨t.k, t.who, { t.f with types := n }⟩)); generalize World.setRow w4 b (Tg.cells ⟨t.k, t.who, { t.f with types := n }⟩) = w5 at *; have q0 : w5.cell? ⟨w.heap.size, 0, none⟩ = some (.int .i64 t.k) := cell_of_row _ _ 0 _ _ (0, 0) O5.out.2.2) | refine wpList_load_part (by rfl) TF _ (by rfl) w.heap.size 2 (by rfl) TTg t.cells t.f.cells (0, 0) _ O5.out.2.2 (tg_part t) Tryz.underlying25 rfl infoTF ?_ | (refine wpList_store_part (by rfl) TF _ _ (by rfl) b 2 TTg (Tg.cells ⟨t.k, t.who, { t.f with types := n }⟩) t.f.cells (Tg.cells ⟨t.k, t.who, t.f⟩) (by rfl) (by rfl) rb5.out (by simp [Tg.cells, Flt.cells]) (tg_put ⟨t.k, t.who, { t.f with types := n }⟩ t.f) infoTF (cells_one _) ?_; have rb6 := Lib.hid (row_set (cs := (Tg.cells ⟨t.k, t.who, t.f⟩)) rb5.out); have O6 := Lib.hid (OneT.setRow O5.out hl hgb.out (Tg.cells ⟨t.k, t.who, t.f⟩)); generalize World.setRow w5 b (Tg.cells ⟨t.k, t.who, t.f⟩) = w6 at *) | (refine wpList_store_int (by rfl) 3 _ _ (by rfl) b 2 TTg (Tg.cells ⟨t.k, t.who, t.f⟩) (Tg.cells ⟨t.k, t.who, { t.f with zone := 0 }⟩) .i64 0 (by rfl) (by rfl) rb6.out (by simp [Tg.cells]) (by simp [Tg.cells]) infoInt1 ?_; have rb7 := Lib.hid (row_set (cs := (Tg.cells ⟨t.k, t.who, { t.f with zone := 0 }⟩)) rb6.out); have O7 := Lib.hid (OneT.setRow O6.out hl hgb.out (Tg.cells ⟨t.k, t.who, { t.f with zone := 0 }⟩)); generalize World.setRow w6 b (Tg.cells ⟨t.k, t.who, { t.f with zone := 0 }⟩) = w7 at *) | refine wpList_load_row_g (by rfl) TTg _ (by rfl) b (by rfl) TTg (Tg.cells ⟨t.k, t.who, { t.f with zone := 0 }⟩) (0, 0) _ rb7.out Tryz.underlying27 rfl infoTTg ?_ | (go_at_call 9; (with_reducible refine (tIs_v ⟨t.k, t.who, { t.f with zone := 0 }⟩ false HY _ (OneT.laid O7.out)).mono ?_); rintro e w8 ⟨rfl, hb8⟩; have O8 := Lib.hid (OneT.below O7.out hb8)) | (go_at_call 8; (with_reducible refine (aliveT_any _ (OneT.laid O8.out)).mono ?_); rintro e w9 ⟨rfl, hb9⟩))
    go_ret
    exact ⟨rfl, below_two O8.out.2.1 hb9⟩
set_option maxRecDepth 100000 in
set_option maxHeartbeats 2000000 in
theorem unused_o (t : Tg) (n : Int) (hs : ¬ (100 : Int) < t.f.sub.size) (hn : ¬ n < 1) (HV : Hid (tgIs t = true)) (hk : ∀ i : Int, (i = 8 ∨ i = 9 ∨ i = 10 ∨ i = 11 ∨ i = 12 ∨ i = 13) → (t.k == i) = false) (HY : Hid (tgIs ⟨t.k, n, t.f⟩ = false)) (w : World) (hl : LaidT w) : Calls Tryz.prog 6 #[.agg t.cells, .int .i64 n] w fun e w' => e = .returned (.bool true) ∧ Below w.heap.size w w' := by
  have e8 := hk 8 (by omega)
  have e9 := hk 9 (by omega)
  have e10 := hk 10 (by omega)
  have e11 := hk 11 (by omega)
  have e12 := hk 12 (by omega)
  have e13 := hk 13 (by omega)
  clear hk
  have r0 := Lib.hid (heap_alloc_new w (.cells t.cells TTg))
  have q9 : (w.alloc (.cells t.cells TTg)).cell? ⟨w.heap.size, 9, none⟩ = some (.string t.f.sub) := cell_of_row _ _ 9 _ _ (0, 0) r0.out
  have hl1 := hl.alloc (.cells t.cells TTg)
  have k0 : Hid (Below w.heap.size w (w.alloc (.cells t.cells TTg))) := Lib.hid ((Below.refl _ _).alloc (Nat.le_refl _) _)
  have hld := fun (w' : World) (h : w'.heap[w.heap.size]? = some (.cells t.cells TTg)) => load_tg t w.heap.size w' h
  go_enter Tryz.func6, Tryz.ntmps6
  go_upto_region 3 with (first | (rw [wpList_skip_eq]; rotate_left; · rfl) | refine wpList_load_row_g (by rfl) TTg _ (by rfl) w.heap.size (by rfl) TTg t.cells (0, 0) _ r0.out Tryz.underlying27 rfl infoTTg ?_ | (go_at_call 9; (with_reducible refine (tIs_v t true HV _ hl1).mono ?_); rintro e w1 ⟨rfl, hb1⟩; have r1 := Lib.hid (blk_below2 hb1 r0.out); have hl2 := hl1.below hb1; have k1 := Lib.hid (below_two k0.out hb1)))
  have hT1 : OneT w t w1 := ⟨hl2, k1.out, r1.out⟩
  have hgt : w.heap.size < w1.heap.size := blk_lt r1.out
  have hN1 : OneN w t w1 w1 := ⟨hT1, Nat.le_refl _, fun g h1 h2 => absurd h2 (by omega)⟩
  have hst := fun (w' : World) (g : Nat) (h : NewT w1 w') (h1 : w1.heap.size ≤ g) (h2 : g < w'.heap.size) => store_new (t := t) w' g h h1 h2
  go_region_held3 (fun w' => LaidT w' ∧ Below w.heap.size w w' ∧ w'.heap[w.heap.size]? = some (.cells t.cells TTg) ∧ NewT w1 w') (exact OneN.open_ (by repeat' (first | exact hN1 | apply OneN.drew | apply OneN.alloc | apply OneN.setRow | exact hl | omega | (simp; omega)))) (fail)
  · obtain ⟨O3, ra3, rb3⟩ := two_a hT1 hl hgt
    change Exit.then _ _ _ _ ((((w1.alloc (Obj.cells zeroT.cells TTg)).alloc (Obj.cells zeroT.cells TTg)).drew.setRow w1.heap.size t.cells).setRow (w1.heap.size + 1) t.cells)
    generalize ((((w1.alloc (Obj.cells zeroT.cells TTg)).alloc (Obj.cells zeroT.cells TTg)).drew.setRow w1.heap.size t.cells).setRow (w1.heap.size + 1) t.cells) = w3 at *
    obtain ⟨a, ha⟩ : ∃ a, w1.heap.size = a := ⟨_, rfl⟩
    obtain ⟨b, hb⟩ : ∃ b, w1.heap.size + 1 = b := ⟨_, rfl⟩
    have hga : Hid (w.heap.size < a) := Lib.hid (by omega)
    have hgb : Hid (w.heap.size < b) := Lib.hid (by omega)
    have hab : Hid (a ≠ b) := Lib.hid (by omega)
    rw [hb] at rb3
    rw [ha] at ra3
    simp only [hb]
    simp only [ha]
    clear hst hN1 hgt hT1 ha hb
    replace O3 := Lib.hid O3
    replace ra3 := Lib.hid ra3
    replace rb3 := Lib.hid rb3
    go_wp2_with (first | (rw [wpList_skip_eq]; rotate_left; · rfl) | (refine wpList_store_int (by rfl) 3 _ _ (by rfl) a 1 TTg t.cells (Tg.cells ⟨t.k, n, t.f⟩) .i64 n (by rfl) (by rfl) ra3.out (by simp [Tg.cells]) (by simp [Tg.cells]) infoInt1 ?_; have ra4 := Lib.hid (row_set (cs := (Tg.cells ⟨t.k, n, t.f⟩)) ra3.out); have rb4 := Lib.hid ((setRow_other w3 a b (Tg.cells ⟨t.k, n, t.f⟩) (Ne.symm hab.out)).trans rb3.out); have O4 := Lib.hid (OneT.setRow O3.out hl hga.out (Tg.cells ⟨t.k, n, t.f⟩)); generalize World.setRow w3 a (Tg.cells ⟨t.k, n, t.f⟩) = w4 at *) | (refine wpList_store_int (by rfl) 3 _ _ (by rfl) b 5 TTg t.cells (Tg.cells ⟨t.k, t.who, { t.f with types := n }⟩) .i64 n (by rfl) (by rfl) rb4.out (by simp [Tg.cells]) (by simp [Tg.cells]) infoInt1 ?_; have rb5 := Lib.hid (row_set (cs := (Tg.cells ⟨t.k, t.who, { t.f with types := n }⟩)) rb4.out); have ra5 := Lib.hid ((setRow_other w4 b a (Tg.cells ⟨t.k, t.who, { t.f with types := n }⟩) hab.out).trans ra4.out); have O5 := Lib.hid (OneT.setRow O4.out hl hgb.out (Tg.cells ⟨t.k, t.who, { t.f with types := n }⟩)); generalize World.setRow w4 b (Tg.cells ⟨t.k, t.who, { t.f with types := n }⟩) = w5 at *; have q0 : w5.cell? ⟨w.heap.size, 0, none⟩ = some (.int .i64 t.k) := cell_of_row _ _ 0 _ _ (0, 0) O5.out.2.2) | refine wpList_load_row_g (by rfl) TTg _ (by rfl) a (by rfl) TTg (Tg.cells ⟨t.k, n, t.f⟩) (0, 0) _ ra5.out Tryz.underlying27 rfl infoTTg ?_ | (go_at_call 9; (with_reducible refine (tIs_v ⟨t.k, n, t.f⟩ false HY _ (OneT.laid O5.out)).mono ?_); rintro e w8 ⟨rfl, hb8⟩; have O8 := Lib.hid (OneT.below O5.out hb8)) | (go_at_call 8; (with_reducible refine (aliveT_any _ (OneT.laid O8.out)).mono ?_); rintro e w9 ⟨rfl, hb9⟩))
    go_ret
    exact ⟨rfl, below_two O8.out.2.1 hb9⟩
  · obtain ⟨O3, rb3, ra3⟩ := two_b hT1 hl hgt
    change Exit.then _ _ _ _ ((((w1.alloc (Obj.cells zeroT.cells TTg)).alloc (Obj.cells zeroT.cells TTg)).drew.setRow (w1.heap.size + 1) t.cells).setRow w1.heap.size t.cells)
    generalize ((((w1.alloc (Obj.cells zeroT.cells TTg)).alloc (Obj.cells zeroT.cells TTg)).drew.setRow (w1.heap.size + 1) t.cells).setRow w1.heap.size t.cells) = w3 at *
    obtain ⟨b, hb⟩ : ∃ b, w1.heap.size = b := ⟨_, rfl⟩
    obtain ⟨a, ha⟩ : ∃ a, w1.heap.size + 1 = a := ⟨_, rfl⟩
    have hga : Hid (w.heap.size < a) := Lib.hid (by omega)
    have hgb : Hid (w.heap.size < b) := Lib.hid (by omega)
    have hab : Hid (a ≠ b) := Lib.hid (by omega)
    rw [ha] at ra3
    rw [hb] at rb3
    simp only [ha]
    simp only [hb]
    clear hst hN1 hgt hT1 ha hb
    replace O3 := Lib.hid O3
    replace ra3 := Lib.hid ra3
    replace rb3 := Lib.hid rb3
    go_wp2_with (first | (rw [wpList_skip_eq]; rotate_left; · rfl) | (refine wpList_store_int (by rfl) 3 _ _ (by rfl) a 1 TTg t.cells (Tg.cells ⟨t.k, n, t.f⟩) .i64 n (by rfl) (by rfl) ra3.out (by simp [Tg.cells]) (by simp [Tg.cells]) infoInt1 ?_; have ra4 := Lib.hid (row_set (cs := (Tg.cells ⟨t.k, n, t.f⟩)) ra3.out); have rb4 := Lib.hid ((setRow_other w3 a b (Tg.cells ⟨t.k, n, t.f⟩) (Ne.symm hab.out)).trans rb3.out); have O4 := Lib.hid (OneT.setRow O3.out hl hga.out (Tg.cells ⟨t.k, n, t.f⟩)); generalize World.setRow w3 a (Tg.cells ⟨t.k, n, t.f⟩) = w4 at *) | (refine wpList_store_int (by rfl) 3 _ _ (by rfl) b 5 TTg t.cells (Tg.cells ⟨t.k, t.who, { t.f with types := n }⟩) .i64 n (by rfl) (by rfl) rb4.out (by simp [Tg.cells]) (by simp [Tg.cells]) infoInt1 ?_; have rb5 := Lib.hid (row_set (cs := (Tg.cells ⟨t.k, t.who, { t.f with types := n }⟩)) rb4.out); have ra5 := Lib.hid ((setRow_other w4 b a (Tg.cells ⟨t.k, t.who, { t.f with types := n }⟩) hab.out).trans ra4.out); have O5 := Lib.hid (OneT.setRow O4.out hl hgb.out (Tg.cells ⟨t.k, t.who, { t.f with types := n }⟩)); generalize World.setRow w4 b (Tg.cells ⟨t.k, t.who, { t.f with types := n }⟩) = w5 at *; have q0 : w5.cell? ⟨w.heap.size, 0, none⟩ = some (.int .i64 t.k) := cell_of_row _ _ 0 _ _ (0, 0) O5.out.2.2) | refine wpList_load_row_g (by rfl) TTg _ (by rfl) a (by rfl) TTg (Tg.cells ⟨t.k, n, t.f⟩) (0, 0) _ ra5.out Tryz.underlying27 rfl infoTTg ?_ | (go_at_call 9; (with_reducible refine (tIs_v ⟨t.k, n, t.f⟩ false HY _ (OneT.laid O5.out)).mono ?_); rintro e w8 ⟨rfl, hb8⟩; have O8 := Lib.hid (OneT.below O5.out hb8)) | (go_at_call 8; (with_reducible refine (aliveT_any _ (OneT.laid O8.out)).mono ?_); rintro e w9 ⟨rfl, hb9⟩))
    go_ret
    exact ⟨rfl, below_two O8.out.2.1 hb9⟩
theorem triggerUnused_law (t : Tg) (n : Int) (w : World) (hl : LaidT w) : Calls Tryz.prog 6 #[.agg t.cells, .int .i64 n] w fun e w' => e = .returned (.bool true) ∧ Below w.heap.size w w' := by
  by_cases hs : (100 : Int) < t.f.sub.size
  · exact unused_long t n hs w hl
  cases hv : tgIs t with
  | false => exact unused_no t n hs (Lib.hid hv) w hl
  | true =>
    by_cases hn : n < 1
    · exact unused_small t n hs hn (Lib.hid hv) w hl
    have h1 : 1 ≤ n := by omega
    by_cases h9 : t.k = 9
    · exact unused_c t n hs hn (Lib.hid hv) h9 (Lib.hid (unused_casts h9)) w hl
    cases hW : usesW t.k with
    | false =>
      refine unused_o t n hs hn (Lib.hid hv) (fun i hi => ?_) (Lib.hid (unused_who h1 hW)) w hl
      rw [beq_eq_false_iff_ne]
      intro e
      unfold usesW at hW
      simp at hW
      omega
    | true =>
      have hF : usesF t.k = false := by unfold usesW at hW; unfold usesF; simp at hW; simp; omega
      have hy := Lib.hid (unused_draws hv h1 hF)
      have hk : t.k = 8 ∨ t.k = 10 ∨ t.k = 11 ∨ t.k = 12 ∨ t.k = 13 := by unfold usesW at hW; simp at hW; omega
      rcases hk with hk | hk | hk | hk | hk
      · exact unused_d8 t n hs hn (Lib.hid hv) hk hy w hl
      · exact unused_d10 t n hs hn (Lib.hid hv) hk hy w hl
      · exact unused_d11 t n hs hn (Lib.hid hv) hk hy w hl
      · exact unused_d12 t n hs hn (Lib.hid hv) hk hy w hl
      · exact unused_d13 t n hs hn (Lib.hid hv) hk hy w hl
end Go.Proofs.YtnibonmeihdjbaaGreatDoor
