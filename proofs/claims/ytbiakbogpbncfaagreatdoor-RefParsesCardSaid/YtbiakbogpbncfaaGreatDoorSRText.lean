/- Walks of the reference: package cardgameref16: Is by any value, names, Text of a kind without number and filter. Conditions: none. -/
import Derived.Test.YtbiakbogpbncfaaGreatDoorSRIs
import Derived.Test.YtbiakbogpbncfaaGreatDoorRefB
import Derived.Test.YtbiakbogpbncfaaGreatDoorRFTextB
import Derived.Test.YtbiakbogpbncfaaGreatDoorSText
namespace Go.Proofs.YtbiakbogpbncfaaGreatDoor
set_option linter.all false
open Go.ChangeShapes Go.WideShapes Go.RowKit
theorem rrIs_v (r : Rf) (specs : Int) (R : Bool) (HR : Hid (refIs r specs = R)) (w : World) :
    Calls Tryz.prog 10 #[.agg r.cells, .int .i64 specs] w fun e w' => e = .returned (.bool R) ∧ Below w.heap.size w w' := by
  obtain ⟨kind, n, f⟩ := r
  have h := HR.out
  by_cases e1 : kind = 1
  · subst e1; subst h; exact rrIs_k1 n specs f w
  by_cases e2 : kind = 2
  · subst e2; subst h; exact rrIs_k2 n specs f w
  by_cases e5 : kind = 5
  · subst e5; subst h; exact rrIs_k5 n specs f w
  by_cases e6 : kind = 6
  · subst e6; subst h; exact rrIs_k6 n specs f w
  by_cases e7 : kind = 7
  · subst e7; subst h; exact rrIs_k7 n specs f w
  by_cases e4 : kind = 4
  · subst e4; subst h; exact rrIs_k4 n specs f w
  by_cases e3 : kind = 3
  · subst e3; subst h; exact rrIs_k3 n specs f w
  by_cases e8 : kind = 8
  · subst e8; subst h; exact rrIs_k8 n specs f w
  · have hf : refIs ⟨kind, n, f⟩ specs = false := by
      unfold refIs kNum kBare
      simp [e1, e2, e3, e4, e5, e6, e7, e8]
    rw [hf] at h
    subst h
    exact rrIs_other kind n specs f w (beq_eq_false_iff_ne.2 e1) (beq_eq_false_iff_ne.2 e2) (beq_eq_false_iff_ne.2 e3) (beq_eq_false_iff_ne.2 e4) (beq_eq_false_iff_ne.2 e5) (beq_eq_false_iff_ne.2 e6) (beq_eq_false_iff_ne.2 e7) (beq_eq_false_iff_ne.2 e8)
theorem rrNames_any (w : World) : Calls Tryz.prog 20 #[] w (RetTexts w refT) := by
  go_enter Tryz.func20, Tryz.ntmps20
  go_wp2
  go_ret
  exact ⟨_, _, rfl, texts_lit refT _ rfl (by decide) w _ rfl, (Below.refl _ _).alloc (Nat.le_refl _) _⟩
theorem infoTRfR : (Tryz.prog.info? TRf).map (·.size) = some 18 := by kernel_rfl
/-- The row of a reference and one word of a table stand; nothing older than w1 has turned. -/
def RowS (b : Nat) (cs : Array Value) (g k : Nat) (X : ByteArray) (w1 w' : World) : Prop := (b < w1.heap.size ∧ g < w1.heap.size) ∧ Below w1.heap.size w1 w' ∧ w'.cell? ⟨g, k, none⟩ = some (.string X) ∧ ∀ j, w'.cell? ⟨b, j, none⟩ = cs[j]?
theorem RowS.below {b : Nat} {cs : Array Value} {g k : Nat} {X : ByteArray} {w1 w2 w3 : World} (h : RowS b cs g k X w1 w2) (hb : Below w2.heap.size w2 w3) : RowS b cs g k X w1 w3 :=
  ⟨h.1, below_two h.2.1 hb, (hb.cell (p := ⟨g, k, none⟩) (Nat.lt_of_lt_of_le h.1.2 h.2.1.size)).trans h.2.2.1, fun j => (hb.cell (p := ⟨b, j, none⟩) (Nat.lt_of_lt_of_le h.1.1 h.2.1.size)).trans (h.2.2.2 j)⟩
theorem RowS.drew {b : Nat} {cs : Array Value} {g k : Nat} {X : ByteArray} {w1 w2 : World} (h : RowS b cs g k X w1 w2) : RowS b cs g k X w1 w2.drew := h.below (Below.refl _ _).drew
theorem rowS_call {b : Nat} {cs : Array Value} {g k : Nat} {X : ByteArray} {w1 w2 : World} {fn : Nat} {args : Array Value} {v : Value} (h : RowS b cs g k X w1 w2) (hc : Calls Tryz.prog fn args w2 fun e w' => e = .returned v ∧ Below w2.heap.size w2 w') : Calls Tryz.prog fn args w2 fun e w' => e = .returned v ∧ RowS b cs g k X w1 w' :=
  hc.mono fun e w' ⟨he, hb⟩ => ⟨he, h.below hb⟩
theorem rowS_mk {b : Nat} {r : Rf} {g k : Nat} {X : ByteArray} {w1 : World} (h1 : b < w1.heap.size) (h2 : g < w1.heap.size) (hg : w1.cell? ⟨g, k, none⟩ = some (.string X)) (hr : w1.heap[b]? = some (.cells r.cells TRf)) : RowS b r.cells g k X w1 w1 :=
  ⟨⟨h1, h2⟩, Below.refl _ _, hg, fun j => cell_of_row _ _ j _ _ (0, 0) hr⟩
theorem rflt_text_lit (f : Flt) (w : World) : Calls Tryz.prog 22 #[.agg #[.int .i64 f.zone, .int .i64 f.who, .int .i64 f.self, .int .i64 f.types, .int .i64 f.ntypes, .int .i64 f.colors, .int .i64 f.ncolors, .string f.sub, .int .i64 f.keys, .int .i64 f.tap, .int .i64 f.pk, .int .i64 f.pn, .int .i64 f.tk, .int .i64 f.tn, .int .i64 f.vk, .int .i64 f.vn]] w fun e w' => e = .returned (.string (B (textOf f))) ∧ Below w.heap.size w w' := rFltText_any f w
set_option maxRecDepth 100000 in
set_option maxHeartbeats 1000000 in
theorem rrText_k1 (w : World) :
    Calls Tryz.prog 12 #[.agg (Rf.cells ⟨1, 0, zeroF⟩)] w fun e w' => e = .returned (.string (B (wd refT 1))) ∧ Below w.heap.size w w' := by
  have HV : Hid (refIs ⟨1, 0, zeroF⟩ 4 = true) := Lib.hid (by kernel_rfl)
  have r0 := Lib.hid (heap_alloc_new w (.cells (Rf.cells ⟨1, 0, zeroF⟩) TRf))
  have k0 : Hid (Below w.heap.size w (w.alloc (.cells (Rf.cells ⟨1, 0, zeroF⟩) TRf))) := Lib.hid ((Below.refl _ _).alloc (Nat.le_refl _) _)
  have hk : 1 < refT.length := by decide
  have hkI : (1 : Int) < ((refT.length : Nat) : Int) := by decide
  go_enter Tryz.func12, Tryz.ntmps12
  go_wp2_with (first | refine wpList_load_row rfl TRf (.tmp 1) rfl w.heap.size rfl TRf (Rf.cells ⟨1, 0, zeroF⟩) (0, 0) _ r0.out Tryz.underlying27 rfl infoTRfR ?_ | (go_at_call 10; (with_reducible refine (rrIs_v ⟨1, 0, zeroF⟩ 4 true HV _).mono ?_); rintro e w1 ⟨rfl, hb1⟩; have r1 := Lib.hid (blk_new hb1); have k1 := Lib.hid (below_two k0.out hb1)) | (go_at_call 20; (with_reducible refine (rrNames_any _).mono ?_); rintro e w2 ⟨A, c, rfl, ht, hb2⟩; have k2 := Lib.hid (below_two k1.out hb2); have r2 := blk_below2 hb2 r1.out; have q0 : World.cell? w2 ⟨w.heap.size, 0, none⟩ = some (.int .i64 1) := cell_of_row _ _ 0 _ _ (0, 0) r2; obtain ⟨g, rfl, hg, hcl⟩ := ht.at_ hk) | (go_at_call 16; (with_reducible refine (rNumK_any _ _).mono ?_); rintro e w3 ⟨rfl, rfl⟩))
  go_ret
  exact ⟨rfl, k2.out⟩
set_option maxRecDepth 100000 in
set_option maxHeartbeats 1000000 in
theorem rrText_k2 (w : World) :
    Calls Tryz.prog 12 #[.agg (Rf.cells ⟨2, 0, zeroF⟩)] w fun e w' => e = .returned (.string (B (wd refT 2))) ∧ Below w.heap.size w w' := by
  have HV : Hid (refIs ⟨2, 0, zeroF⟩ 4 = true) := Lib.hid (by kernel_rfl)
  have r0 := Lib.hid (heap_alloc_new w (.cells (Rf.cells ⟨2, 0, zeroF⟩) TRf))
  have k0 : Hid (Below w.heap.size w (w.alloc (.cells (Rf.cells ⟨2, 0, zeroF⟩) TRf))) := Lib.hid ((Below.refl _ _).alloc (Nat.le_refl _) _)
  have hk : 2 < refT.length := by decide
  have hkI : (2 : Int) < ((refT.length : Nat) : Int) := by decide
  go_enter Tryz.func12, Tryz.ntmps12
  go_wp2_with (first | refine wpList_load_row rfl TRf (.tmp 1) rfl w.heap.size rfl TRf (Rf.cells ⟨2, 0, zeroF⟩) (0, 0) _ r0.out Tryz.underlying27 rfl infoTRfR ?_ | (go_at_call 10; (with_reducible refine (rrIs_v ⟨2, 0, zeroF⟩ 4 true HV _).mono ?_); rintro e w1 ⟨rfl, hb1⟩; have r1 := Lib.hid (blk_new hb1); have k1 := Lib.hid (below_two k0.out hb1)) | (go_at_call 20; (with_reducible refine (rrNames_any _).mono ?_); rintro e w2 ⟨A, c, rfl, ht, hb2⟩; have k2 := Lib.hid (below_two k1.out hb2); have r2 := blk_below2 hb2 r1.out; have q0 : World.cell? w2 ⟨w.heap.size, 0, none⟩ = some (.int .i64 2) := cell_of_row _ _ 0 _ _ (0, 0) r2; obtain ⟨g, rfl, hg, hcl⟩ := ht.at_ hk) | (go_at_call 16; (with_reducible refine (rNumK_any _ _).mono ?_); rintro e w3 ⟨rfl, rfl⟩))
  go_ret
  exact ⟨rfl, k2.out⟩
set_option maxRecDepth 100000 in
set_option maxHeartbeats 1000000 in
theorem rrText_k5 (w : World) :
    Calls Tryz.prog 12 #[.agg (Rf.cells ⟨5, 0, zeroF⟩)] w fun e w' => e = .returned (.string (B (wd refT 5))) ∧ Below w.heap.size w w' := by
  have HV : Hid (refIs ⟨5, 0, zeroF⟩ 4 = true) := Lib.hid (by kernel_rfl)
  have r0 := Lib.hid (heap_alloc_new w (.cells (Rf.cells ⟨5, 0, zeroF⟩) TRf))
  have k0 : Hid (Below w.heap.size w (w.alloc (.cells (Rf.cells ⟨5, 0, zeroF⟩) TRf))) := Lib.hid ((Below.refl _ _).alloc (Nat.le_refl _) _)
  have hk : 5 < refT.length := by decide
  have hkI : (5 : Int) < ((refT.length : Nat) : Int) := by decide
  go_enter Tryz.func12, Tryz.ntmps12
  go_wp2_with (first | refine wpList_load_row rfl TRf (.tmp 1) rfl w.heap.size rfl TRf (Rf.cells ⟨5, 0, zeroF⟩) (0, 0) _ r0.out Tryz.underlying27 rfl infoTRfR ?_ | (go_at_call 10; (with_reducible refine (rrIs_v ⟨5, 0, zeroF⟩ 4 true HV _).mono ?_); rintro e w1 ⟨rfl, hb1⟩; have r1 := Lib.hid (blk_new hb1); have k1 := Lib.hid (below_two k0.out hb1)) | (go_at_call 20; (with_reducible refine (rrNames_any _).mono ?_); rintro e w2 ⟨A, c, rfl, ht, hb2⟩; have k2 := Lib.hid (below_two k1.out hb2); have r2 := blk_below2 hb2 r1.out; have q0 : World.cell? w2 ⟨w.heap.size, 0, none⟩ = some (.int .i64 5) := cell_of_row _ _ 0 _ _ (0, 0) r2; obtain ⟨g, rfl, hg, hcl⟩ := ht.at_ hk) | (go_at_call 16; (with_reducible refine (rNumK_any _ _).mono ?_); rintro e w3 ⟨rfl, rfl⟩))
  go_ret
  exact ⟨rfl, k2.out⟩
set_option maxRecDepth 100000 in
set_option maxHeartbeats 1000000 in
theorem rrText_k6 (w : World) :
    Calls Tryz.prog 12 #[.agg (Rf.cells ⟨6, 0, zeroF⟩)] w fun e w' => e = .returned (.string (B (wd refT 6))) ∧ Below w.heap.size w w' := by
  have HV : Hid (refIs ⟨6, 0, zeroF⟩ 4 = true) := Lib.hid (by kernel_rfl)
  have r0 := Lib.hid (heap_alloc_new w (.cells (Rf.cells ⟨6, 0, zeroF⟩) TRf))
  have k0 : Hid (Below w.heap.size w (w.alloc (.cells (Rf.cells ⟨6, 0, zeroF⟩) TRf))) := Lib.hid ((Below.refl _ _).alloc (Nat.le_refl _) _)
  have hk : 6 < refT.length := by decide
  have hkI : (6 : Int) < ((refT.length : Nat) : Int) := by decide
  go_enter Tryz.func12, Tryz.ntmps12
  go_wp2_with (first | refine wpList_load_row rfl TRf (.tmp 1) rfl w.heap.size rfl TRf (Rf.cells ⟨6, 0, zeroF⟩) (0, 0) _ r0.out Tryz.underlying27 rfl infoTRfR ?_ | (go_at_call 10; (with_reducible refine (rrIs_v ⟨6, 0, zeroF⟩ 4 true HV _).mono ?_); rintro e w1 ⟨rfl, hb1⟩; have r1 := Lib.hid (blk_new hb1); have k1 := Lib.hid (below_two k0.out hb1)) | (go_at_call 20; (with_reducible refine (rrNames_any _).mono ?_); rintro e w2 ⟨A, c, rfl, ht, hb2⟩; have k2 := Lib.hid (below_two k1.out hb2); have r2 := blk_below2 hb2 r1.out; have q0 : World.cell? w2 ⟨w.heap.size, 0, none⟩ = some (.int .i64 6) := cell_of_row _ _ 0 _ _ (0, 0) r2; obtain ⟨g, rfl, hg, hcl⟩ := ht.at_ hk) | (go_at_call 16; (with_reducible refine (rNumK_any _ _).mono ?_); rintro e w3 ⟨rfl, rfl⟩))
  go_ret
  exact ⟨rfl, k2.out⟩
set_option maxRecDepth 100000 in
set_option maxHeartbeats 1000000 in
theorem rrText_k7 (w : World) :
    Calls Tryz.prog 12 #[.agg (Rf.cells ⟨7, 0, zeroF⟩)] w fun e w' => e = .returned (.string (B (wd refT 7))) ∧ Below w.heap.size w w' := by
  have HV : Hid (refIs ⟨7, 0, zeroF⟩ 4 = true) := Lib.hid (by kernel_rfl)
  have r0 := Lib.hid (heap_alloc_new w (.cells (Rf.cells ⟨7, 0, zeroF⟩) TRf))
  have k0 : Hid (Below w.heap.size w (w.alloc (.cells (Rf.cells ⟨7, 0, zeroF⟩) TRf))) := Lib.hid ((Below.refl _ _).alloc (Nat.le_refl _) _)
  have hk : 7 < refT.length := by decide
  have hkI : (7 : Int) < ((refT.length : Nat) : Int) := by decide
  go_enter Tryz.func12, Tryz.ntmps12
  go_wp2_with (first | refine wpList_load_row rfl TRf (.tmp 1) rfl w.heap.size rfl TRf (Rf.cells ⟨7, 0, zeroF⟩) (0, 0) _ r0.out Tryz.underlying27 rfl infoTRfR ?_ | (go_at_call 10; (with_reducible refine (rrIs_v ⟨7, 0, zeroF⟩ 4 true HV _).mono ?_); rintro e w1 ⟨rfl, hb1⟩; have r1 := Lib.hid (blk_new hb1); have k1 := Lib.hid (below_two k0.out hb1)) | (go_at_call 20; (with_reducible refine (rrNames_any _).mono ?_); rintro e w2 ⟨A, c, rfl, ht, hb2⟩; have k2 := Lib.hid (below_two k1.out hb2); have r2 := blk_below2 hb2 r1.out; have q0 : World.cell? w2 ⟨w.heap.size, 0, none⟩ = some (.int .i64 7) := cell_of_row _ _ 0 _ _ (0, 0) r2; obtain ⟨g, rfl, hg, hcl⟩ := ht.at_ hk) | (go_at_call 16; (with_reducible refine (rNumK_any _ _).mono ?_); rintro e w3 ⟨rfl, rfl⟩))
  go_ret
  exact ⟨rfl, k2.out⟩
set_option maxRecDepth 100000 in
set_option maxHeartbeats 1000000 in
theorem rrText_k3 (n : Int) (h1 : 1 ≤ n) (h2 : n ≤ 4) (w : World) :
    Calls Tryz.prog 12 #[.agg (Rf.cells ⟨3, n, zeroF⟩)] w fun e w' => e = .returned (.string (B (targetW ++ Lib.itoa n))) ∧ Below w.heap.size w w' := by
  have HV : Hid (refIs ⟨3, n, zeroF⟩ 4 = true) := Lib.hid (by unfold refIs kNum; simp [h1, h2, (fltEq_iff zeroF zeroF).2 rfl])
  have hil := Lib.itoa_length_le n (by omega) (by omega)
  have r0 := Lib.hid (heap_alloc_new w (.cells (Rf.cells ⟨3, n, zeroF⟩) TRf))
  have k0 : Hid (Below w.heap.size w (w.alloc (.cells (Rf.cells ⟨3, n, zeroF⟩) TRf))) := Lib.hid ((Below.refl _ _).alloc (Nat.le_refl _) _)
  have hk : 3 < refT.length := by decide
  have hkI : (3 : Int) < ((refT.length : Nat) : Int) := by decide
  go_enter Tryz.func12, Tryz.ntmps12
  go_wp2_with (first | refine wpList_load_row rfl TRf (.tmp 1) rfl w.heap.size rfl TRf (Rf.cells ⟨3, n, zeroF⟩) (0, 0) _ r0.out Tryz.underlying27 rfl infoTRfR ?_ | (go_at_call 10; (with_reducible refine (rrIs_v ⟨3, n, zeroF⟩ 4 true HV _).mono ?_); rintro e w1 ⟨rfl, hb1⟩; have r1 := Lib.hid (blk_new hb1); have k1 := Lib.hid (below_two k0.out hb1)) | (go_at_call 20; (with_reducible refine (rrNames_any _).mono ?_); rintro e w2 ⟨A, c, rfl, ht, hb2⟩; have k2 := Lib.hid (below_two k1.out hb2); have r2 := blk_below2 hb2 r1.out; have q0 : World.cell? w2 ⟨w.heap.size, 0, none⟩ = some (.int .i64 3) := cell_of_row _ _ 0 _ _ (0, 0) r2; have r2 := Lib.hid r2; obtain ⟨g, rfl, hg, hcl⟩ := ht.at_ hk) | (go_at_call 16; (with_reducible refine (rNumK_any _ _).mono ?_); rintro e w3 ⟨rfl, rfl⟩))
  have hX2 : Hid (B refT[3] = B targetW) := Lib.hid rfl
  generalize B refT[3] = X at *
  have hxs : X.size ≤ 6 := by rw [hX2.out, B_size]; decide
  have a1 : ∀ wx : World, (Op.stringOp .add X (B (Lib.itoa n))).run Tryz.prog wx = .ok (.string (X ++ B (Lib.itoa n))) wx := fun wx => run_string_add_sum (P := Tryz.prog) (w := wx) _ _ (by rw [B_size]; omega)
  have hB : RowS w.heap.size (Rf.cells ⟨3, n, zeroF⟩) g 3 X w2 w2 := rowS_mk (blk_lt r2.out) (World.block_lt_of_cell? _ _ hcl) hcl r2.out
  clear r2
  go_region_held3 (fun w' => w'.cell? ⟨g, 3, none⟩ = some (.string X) ∧ w'.cell? ⟨w.heap.size, 0, none⟩ = some (.int .i64 3) ∧ w'.cell? ⟨w.heap.size, 1, none⟩ = some (.int .i64 n) ∧ Below w2.heap.size w2 w') (exact (fun (h : RowS w.heap.size (Rf.cells ⟨3, n, zeroF⟩) g 3 X w2 _) => (⟨h.2.2.1, h.2.2.2 0, h.2.2.2 1, h.2.1⟩ : _ ∧ _ ∧ _ ∧ _)) (by first | assumption | exact RowS.drew hB)) (first | (go_at_call 21; (with_reducible refine (rowS_call (RowS.drew hB) (rText_any n _ (by omega) (by omega))).mono ?_); rintro e w4 ⟨rfl, hB2⟩))
  all_goals
   go_wp2
   go_ret
   exact ⟨ret_str (by rw [hX2.out, B_append]), below_two k2.out hB2.2.1⟩
set_option maxRecDepth 100000 in
set_option maxHeartbeats 1000000 in
theorem rrText_k8 (n : Int) (h1 : 1 ≤ n) (h2 : n ≤ 4) (w : World) :
    Calls Tryz.prog 12 #[.agg (Rf.cells ⟨8, n, zeroF⟩)] w fun e w' => e = .returned (.string (B (ownerW ++ Lib.itoa n))) ∧ Below w.heap.size w w' := by
  have HV : Hid (refIs ⟨8, n, zeroF⟩ 4 = true) := Lib.hid (by unfold refIs kNum; simp [h1, h2, (fltEq_iff zeroF zeroF).2 rfl])
  have hil := Lib.itoa_length_le n (by omega) (by omega)
  have r0 := Lib.hid (heap_alloc_new w (.cells (Rf.cells ⟨8, n, zeroF⟩) TRf))
  have k0 : Hid (Below w.heap.size w (w.alloc (.cells (Rf.cells ⟨8, n, zeroF⟩) TRf))) := Lib.hid ((Below.refl _ _).alloc (Nat.le_refl _) _)
  have hk : 8 < refT.length := by decide
  have hkI : (8 : Int) < ((refT.length : Nat) : Int) := by decide
  go_enter Tryz.func12, Tryz.ntmps12
  go_wp2_with (first | refine wpList_load_row rfl TRf (.tmp 1) rfl w.heap.size rfl TRf (Rf.cells ⟨8, n, zeroF⟩) (0, 0) _ r0.out Tryz.underlying27 rfl infoTRfR ?_ | (go_at_call 10; (with_reducible refine (rrIs_v ⟨8, n, zeroF⟩ 4 true HV _).mono ?_); rintro e w1 ⟨rfl, hb1⟩; have r1 := Lib.hid (blk_new hb1); have k1 := Lib.hid (below_two k0.out hb1)) | (go_at_call 20; (with_reducible refine (rrNames_any _).mono ?_); rintro e w2 ⟨A, c, rfl, ht, hb2⟩; have k2 := Lib.hid (below_two k1.out hb2); have r2 := blk_below2 hb2 r1.out; have q0 : World.cell? w2 ⟨w.heap.size, 0, none⟩ = some (.int .i64 8) := cell_of_row _ _ 0 _ _ (0, 0) r2; have r2 := Lib.hid r2; obtain ⟨g, rfl, hg, hcl⟩ := ht.at_ hk) | (go_at_call 16; (with_reducible refine (rNumK_any _ _).mono ?_); rintro e w3 ⟨rfl, rfl⟩))
  have hX2 : Hid (B refT[8] = B ownerW) := Lib.hid rfl
  generalize B refT[8] = X at *
  have hxs : X.size ≤ 6 := by rw [hX2.out, B_size]; decide
  have a1 : ∀ wx : World, (Op.stringOp .add X (B (Lib.itoa n))).run Tryz.prog wx = .ok (.string (X ++ B (Lib.itoa n))) wx := fun wx => run_string_add_sum (P := Tryz.prog) (w := wx) _ _ (by rw [B_size]; omega)
  have hB : RowS w.heap.size (Rf.cells ⟨8, n, zeroF⟩) g 8 X w2 w2 := rowS_mk (blk_lt r2.out) (World.block_lt_of_cell? _ _ hcl) hcl r2.out
  clear r2
  go_region_held3 (fun w' => w'.cell? ⟨g, 8, none⟩ = some (.string X) ∧ w'.cell? ⟨w.heap.size, 0, none⟩ = some (.int .i64 8) ∧ w'.cell? ⟨w.heap.size, 1, none⟩ = some (.int .i64 n) ∧ Below w2.heap.size w2 w') (exact (fun (h : RowS w.heap.size (Rf.cells ⟨8, n, zeroF⟩) g 8 X w2 _) => (⟨h.2.2.1, h.2.2.2 0, h.2.2.2 1, h.2.1⟩ : _ ∧ _ ∧ _ ∧ _)) (by first | assumption | exact RowS.drew hB)) (first | (go_at_call 21; (with_reducible refine (rowS_call (RowS.drew hB) (rText_any n _ (by omega) (by omega))).mono ?_); rintro e w4 ⟨rfl, hB2⟩))
  all_goals
   go_wp2
   go_ret
   exact ⟨ret_str (by rw [hX2.out, B_append]), below_two k2.out hB2.2.1⟩
set_option maxRecDepth 100000 in
set_option maxHeartbeats 1000000 in
theorem rrText_k4 (f : Flt) (hf : fltIs f = true) (w : World) :
    Calls Tryz.prog 12 #[.agg (Rf.cells ⟨4, 0, f⟩)] w fun e w' => e = .returned (.string (B (eachW ++ textOf f ++ [41]))) ∧ Below w.heap.size w w' := by
  have HV : Hid (refIs ⟨4, 0, f⟩ 4 = true) := Lib.hid (by unfold refIs kNum; simp [hf])
  have hil := textOf_len (f := f)
  clear hf
  have r0 := Lib.hid (heap_alloc_new w (.cells (Rf.cells ⟨4, 0, f⟩) TRf))
  have k0 : Hid (Below w.heap.size w (w.alloc (.cells (Rf.cells ⟨4, 0, f⟩) TRf))) := Lib.hid ((Below.refl _ _).alloc (Nat.le_refl _) _)
  have hk : 4 < refT.length := by decide
  have hkI : (4 : Int) < ((refT.length : Nat) : Int) := by decide
  go_enter Tryz.func12, Tryz.ntmps12
  go_wp2_with (first | refine wpList_load_row rfl TRf (.tmp 1) rfl w.heap.size rfl TRf (Rf.cells ⟨4, 0, f⟩) (0, 0) _ r0.out Tryz.underlying27 rfl infoTRfR ?_ | (go_at_call 10; (with_reducible refine (rrIs_v ⟨4, 0, f⟩ 4 true HV _).mono ?_); rintro e w1 ⟨rfl, hb1⟩; have r1 := Lib.hid (blk_new hb1); have k1 := Lib.hid (below_two k0.out hb1)) | (go_at_call 20; (with_reducible refine (rrNames_any _).mono ?_); rintro e w2 ⟨A, c, rfl, ht, hb2⟩; have k2 := Lib.hid (below_two k1.out hb2); have r2 := blk_below2 hb2 r1.out; have q0 : World.cell? w2 ⟨w.heap.size, 0, none⟩ = some (.int .i64 4) := cell_of_row _ _ 0 _ _ (0, 0) r2; have r2 := Lib.hid r2; obtain ⟨g, rfl, hg, hcl⟩ := ht.at_ hk) | (go_at_call 16; (with_reducible refine (rNumK_any _ _).mono ?_); rintro e w3 ⟨rfl, rfl⟩))
  have hX2 : Hid (B refT[4] = B eachW) := Lib.hid rfl
  generalize B refT[4] = X at *
  have hxs : X.size ≤ 6 := by rw [hX2.out, B_size]; decide
  have a1 : ∀ wx : World, (Op.stringOp .add X (B (textOf f))).run Tryz.prog wx = .ok (.string (X ++ B (textOf f))) wx := fun wx => run_string_add_sum (P := Tryz.prog) (w := wx) _ _ (by rw [B_size]; omega)
  have a2 : ∀ wx : World, (Op.stringOp .add (X ++ B (textOf f)) ⟨#[41]⟩).run Tryz.prog wx = .ok (.string (X ++ B (textOf f) ++ ⟨#[41]⟩)) wx := fun wx => run_string_add_sum (P := Tryz.prog) (w := wx) _ _ (by rw [ByteArray.size_append, B_size]; have h41 : (⟨#[41]⟩ : ByteArray).size = 1 := rfl; omega)
  have hB : RowS w.heap.size (Rf.cells ⟨4, 0, f⟩) g 4 X w2 w2 := rowS_mk (blk_lt r2.out) (World.block_lt_of_cell? _ _ hcl) hcl r2.out
  clear r2
  go_region_held3 (fun w' => w'.cell? ⟨g, 4, none⟩ = some (.string X) ∧ w'.cell? ⟨w.heap.size, 0, none⟩ = some (.int .i64 4) ∧ Below w2.heap.size w2 w' ∧ w'.cell? ⟨w.heap.size, 2, none⟩ = some (.int .i64 f.zone) ∧ w'.cell? ⟨w.heap.size, 3, none⟩ = some (.int .i64 f.who) ∧ w'.cell? ⟨w.heap.size, 4, none⟩ = some (.int .i64 f.self) ∧ w'.cell? ⟨w.heap.size, 5, none⟩ = some (.int .i64 f.types) ∧ w'.cell? ⟨w.heap.size, 6, none⟩ = some (.int .i64 f.ntypes) ∧ w'.cell? ⟨w.heap.size, 7, none⟩ = some (.int .i64 f.colors) ∧ w'.cell? ⟨w.heap.size, 8, none⟩ = some (.int .i64 f.ncolors) ∧ w'.cell? ⟨w.heap.size, 9, none⟩ = some (.string f.sub) ∧ w'.cell? ⟨w.heap.size, 10, none⟩ = some (.int .i64 f.keys) ∧ w'.cell? ⟨w.heap.size, 11, none⟩ = some (.int .i64 f.tap) ∧ w'.cell? ⟨w.heap.size, 12, none⟩ = some (.int .i64 f.pk) ∧ w'.cell? ⟨w.heap.size, 13, none⟩ = some (.int .i64 f.pn) ∧ w'.cell? ⟨w.heap.size, 14, none⟩ = some (.int .i64 f.tk) ∧ w'.cell? ⟨w.heap.size, 15, none⟩ = some (.int .i64 f.tn) ∧ w'.cell? ⟨w.heap.size, 16, none⟩ = some (.int .i64 f.vk) ∧ w'.cell? ⟨w.heap.size, 17, none⟩ = some (.int .i64 f.vn)) (exact (fun (h : RowS w.heap.size (Rf.cells ⟨4, 0, f⟩) g 4 X w2 _) => (⟨h.2.2.1, h.2.2.2 0, h.2.1, h.2.2.2 2, h.2.2.2 3, h.2.2.2 4, h.2.2.2 5, h.2.2.2 6, h.2.2.2 7, h.2.2.2 8, h.2.2.2 9, h.2.2.2 10, h.2.2.2 11, h.2.2.2 12, h.2.2.2 13, h.2.2.2 14, h.2.2.2 15, h.2.2.2 16, h.2.2.2 17⟩ : _ ∧ _ ∧ _ ∧ _)) (by first | assumption | exact RowS.drew hB)) (first | (go_at_call 22; (with_reducible refine (rowS_call (RowS.drew hB) (rflt_text_lit f _)).mono ?_); rintro e w4 ⟨rfl, hB2⟩))
  all_goals
   go_wp2
   go_ret
   exact ⟨ret_str (by rw [hX2.out, show (⟨#[41]⟩ : ByteArray) = B [41] from rfl, B_append, B_append]), below_two k2.out hB2.2.1⟩
set_option maxRecDepth 100000 in
theorem rrText_no (r : Rf) (HV : Hid (refIs r 4 = false)) (w : World) :
    Calls Tryz.prog 12 #[.agg r.cells] w fun e w' => e = .returned (.string ⟨#[]⟩) ∧ Below w.heap.size w w' := by
  have r0 := Lib.hid (heap_alloc_new w (.cells r.cells TRf))
  go_enter Tryz.func12, Tryz.ntmps12
  go_wp2_with (first | refine wpList_load_row rfl TRf (.tmp 1) rfl w.heap.size rfl TRf r.cells (0, 0) _ r0.out Tryz.underlying27 rfl infoTRfR ?_ | (go_at_call 10; (with_reducible refine (rrIs_v r 4 false HV _).mono ?_); rintro e w1 ⟨rfl, hb1⟩))
  go_ret
  exact ⟨rfl, below_two ((Below.refl _ _).alloc (Nat.le_refl _) _) hb1⟩
theorem rrText_v (r : Rf) (w : World) :
    Calls Tryz.prog 12 #[.agg r.cells] w fun e w' => e = .returned (.string (B (refText r))) ∧ Below w.heap.size w w' := by
  cases hv : refIs r 4 with
  | false => exact (rrText_no r (Lib.hid hv) w).mono fun e w' ⟨he, hb⟩ => ⟨by rw [he, refText_no hv]; rfl, hb⟩
  | true =>
    have ht : refText r = refBody r := if_pos hv
    rw [ht]
    rcases refIs_cases hv with rfl | rfl | rfl | rfl | rfl | (rfl | rfl | rfl | rfl) | (rfl | rfl | rfl | rfl) | ⟨f, hf, rfl⟩
    · exact rrText_k1 w
    · exact rrText_k2 w
    · exact rrText_k5 w
    · exact rrText_k6 w
    · exact rrText_k7 w
    · exact rrText_k3 1 (by omega) (by omega) w
    · exact rrText_k3 2 (by omega) (by omega) w
    · exact rrText_k3 3 (by omega) (by omega) w
    · exact rrText_k3 4 (by omega) (by omega) w
    · exact rrText_k8 1 (by omega) (by omega) w
    · exact rrText_k8 2 (by omega) (by omega) w
    · exact rrText_k8 3 (by omega) (by omega) w
    · exact rrText_k8 4 (by omega) (by omega) w
    · exact rrText_k4 f hf w
end Go.Proofs.YtbiakbogpbncfaaGreatDoor
