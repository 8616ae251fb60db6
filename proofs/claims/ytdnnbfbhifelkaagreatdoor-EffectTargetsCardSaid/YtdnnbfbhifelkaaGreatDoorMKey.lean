/- Walks: package keyword: the names. Conditions: none. -/
import Derived.Test.YtdnnbfbhifelkaaGreatDoorQ1
set_option linter.all false
set_option maxRecDepth 100000
set_option maxHeartbeats 16000000
namespace Go.Proofs.YtdnnbfbhifelkaaGreatDoor
open Go.ChangeShapes Go.WideShapes Go.RowKit
theorem cmpOr_any (a b : ByteArray) (g : Nat) (w : World) (R : ByteArray) (h0 : w.cell? ⟨g, 0, none⟩ = some (.string a)) (h1 : w.cell? ⟨g, 1, none⟩ = some (.string b)) (hb : b.toList.isEmpty = false) (hR : (if a.toList.isEmpty then b else a) = R) :
 Calls Tryz.prog 121 #[.slice (some ⟨g, 0, none⟩) 2 2] w fun e w' => e = .returned (.string R) ∧ w = w' := by
 have h01 : (0 : Int) < 2 := by decide
 have HR := Lib.hid hR; clear hR
 cases ha : a.toList.isEmpty
 ·go_enter Tryz.func121, Tryz.ntmps121
  go_wp2
  refine wp_loop_rounds 1 ?_
  rw [rounds_succ]
  go_wp2
  go_ret
  exact ⟨ret_str (by rw [← HR.out, ha]; rfl), rfl⟩
 ·go_enter Tryz.func121, Tryz.ntmps121
  go_wp2
  refine wp_loop_rounds 2 ?_
  rw [rounds_succ]
  go_wp2
  rw [rounds_succ]
  go_wp2
  go_ret
  exact ⟨ret_str (by rw [← HR.out, ha]; rfl), rfl⟩
theorem shl_eq {k j : Nat} (hk : k = j) (hj : j < 31) (c : Nat) : (wrap64 ((2 : Int) ^ k) == ((2 ^ c : Nat) : Int)) = decide (j = c) := by
 subst hk
 rw [wrap_pow hj, Bool.eq_iff_iff]
 simp only [beq_iff_eq, decide_eq_true_eq, Int.natCast_inj]
 exact ⟨fun h => (Nat.pow_right_inj (by decide)).1 h, fun h => by rw [h]⟩
theorem then_exit {K : Act → World → Prop} {Q : Exit → Act → World → Prop} {n : Nat} {a : Act} {w : World} (h : Q (.exit n) a w) : Exit.then K Q (.exit n) a w := h
theorem then_ret {K : Act → World → Prop} {Q : Exit → Act → World → Prop} {a : Act} {w : World} (h : Q .ret a w) : Exit.then K Q .ret a w := h
theorem inBlock_ret {Q : Exit → Act → World → Prop} {i : Nat} {a : Act} {w : World} (h : Q .ret a w) : Exit.inBlock i Q .ret a w := h
theorem inBlock_same {Q : Exit → Act → World → Prop} {i : Nat} {a : Act} {w : World} (h : Q .normal a w) : Exit.inBlock i Q (.exit i) a w := by
 show (if i = i then Q .normal a w else Q (.exit i) a w); rw [if_pos rfl]; exact h
theorem inBlock_other {Q : Exit → Act → World → Prop} {i n : Nat} {a : Act} {w : World} (hn : (n == i) = false) (h : Q (.exit n) a w) : Exit.inBlock i Q (.exit n) a w := by
 show (if n = i then Q .normal a w else Q (.exit n) a w); rw [if_neg (by simpa using hn)]; exact h
theorem two_new0 (w : World) (a b : Value) (t : TypeId) : (w.alloc (.cells #[a, b] t)).cell? ⟨w.heap.size, 0, none⟩ = some a := by simp
theorem two_new1 (w : World) (a b : Value) (t : TypeId) : (w.alloc (.cells #[a, b] t)).cell? ⟨w.heap.size, 1, none⟩ = some b := by simp
theorem kw0 (k : Nat) (hk : k = 0) (w : World) :
 Calls Tryz.prog 75 #[.int .i64 k] w fun e w' => e = .returned (.string (B (kwT.getD 0 []))) ∧ Below w.heap.size w w' := by
 have f0 : (wrap64 ((2 : Int) ^ k) == 1) = true := shl_eq hk (by decide) 0
 have f1 : (wrap64 ((2 : Int) ^ k) == 2) = false := shl_eq hk (by decide) 1
 have f2 : (wrap64 ((2 : Int) ^ k) == 4) = false := shl_eq hk (by decide) 2
 have f3 : (wrap64 ((2 : Int) ^ k) == 8) = false := shl_eq hk (by decide) 3
 have f4 : (wrap64 ((2 : Int) ^ k) == 16) = false := shl_eq hk (by decide) 4
 have f5 : (wrap64 ((2 : Int) ^ k) == 32) = false := shl_eq hk (by decide) 5
 have f6 : (wrap64 ((2 : Int) ^ k) == 64) = false := shl_eq hk (by decide) 6
 have f7 : (wrap64 ((2 : Int) ^ k) == 128) = false := shl_eq hk (by decide) 7
 have f8 : (wrap64 ((2 : Int) ^ k) == 256) = false := shl_eq hk (by decide) 8
 have f9 : (wrap64 ((2 : Int) ^ k) == 512) = false := shl_eq hk (by decide) 9
 have f10 : (wrap64 ((2 : Int) ^ k) == 1024) = false := shl_eq hk (by decide) 10
 have f11 : (wrap64 ((2 : Int) ^ k) == 2048) = false := shl_eq hk (by decide) 11
 have f12 : (wrap64 ((2 : Int) ^ k) == 4096) = false := shl_eq hk (by decide) 12
 have f13 : (wrap64 ((2 : Int) ^ k) == 8192) = false := shl_eq hk (by decide) 13
 have f14 : (wrap64 ((2 : Int) ^ k) == 16384) = false := shl_eq hk (by decide) 14
 have f16 : (wrap64 ((2 : Int) ^ k) == 65536) = false := shl_eq hk (by decide) 16
 have g2 : (k : Int) < 17 := by omega
 clear hk
 go_enter Tryz.func75, Tryz.ntmps75
 repeat (first | (refine wp_exit ?_; repeat (first | refine then_exit ?_ | refine inBlock_same ?_ | refine inBlock_other rfl ?_)) | (refine wp_ret ?_; repeat (first | refine then_ret ?_ | refine inBlock_ret ?_)) | go_step)
 go_ret
 exact ⟨rfl, Below.refl _ _⟩
theorem kw1 (k : Nat) (hk : k = 1) (w : World) :
 Calls Tryz.prog 75 #[.int .i64 k] w fun e w' => e = .returned (.string (B (kwT.getD 1 []))) ∧ Below w.heap.size w w' := by
 have f0 : (wrap64 ((2 : Int) ^ k) == 1) = false := shl_eq hk (by decide) 0
 have f1 : (wrap64 ((2 : Int) ^ k) == 2) = true := shl_eq hk (by decide) 1
 have f2 : (wrap64 ((2 : Int) ^ k) == 4) = false := shl_eq hk (by decide) 2
 have f3 : (wrap64 ((2 : Int) ^ k) == 8) = false := shl_eq hk (by decide) 3
 have f4 : (wrap64 ((2 : Int) ^ k) == 16) = false := shl_eq hk (by decide) 4
 have f5 : (wrap64 ((2 : Int) ^ k) == 32) = false := shl_eq hk (by decide) 5
 have f6 : (wrap64 ((2 : Int) ^ k) == 64) = false := shl_eq hk (by decide) 6
 have f7 : (wrap64 ((2 : Int) ^ k) == 128) = false := shl_eq hk (by decide) 7
 have f8 : (wrap64 ((2 : Int) ^ k) == 256) = false := shl_eq hk (by decide) 8
 have f9 : (wrap64 ((2 : Int) ^ k) == 512) = false := shl_eq hk (by decide) 9
 have f10 : (wrap64 ((2 : Int) ^ k) == 1024) = false := shl_eq hk (by decide) 10
 have f11 : (wrap64 ((2 : Int) ^ k) == 2048) = false := shl_eq hk (by decide) 11
 have f12 : (wrap64 ((2 : Int) ^ k) == 4096) = false := shl_eq hk (by decide) 12
 have f13 : (wrap64 ((2 : Int) ^ k) == 8192) = false := shl_eq hk (by decide) 13
 have f14 : (wrap64 ((2 : Int) ^ k) == 16384) = false := shl_eq hk (by decide) 14
 have f16 : (wrap64 ((2 : Int) ^ k) == 65536) = false := shl_eq hk (by decide) 16
 have g2 : (k : Int) < 17 := by omega
 clear hk
 go_enter Tryz.func75, Tryz.ntmps75
 repeat (first | (refine wp_exit ?_; repeat (first | refine then_exit ?_ | refine inBlock_same ?_ | refine inBlock_other rfl ?_)) | (refine wp_ret ?_; repeat (first | refine then_ret ?_ | refine inBlock_ret ?_)) | go_step)
 go_ret
 exact ⟨rfl, Below.refl _ _⟩
theorem kw2 (k : Nat) (hk : k = 2) (w : World) :
 Calls Tryz.prog 75 #[.int .i64 k] w fun e w' => e = .returned (.string (B (kwT.getD 2 []))) ∧ Below w.heap.size w w' := by
 have f0 : (wrap64 ((2 : Int) ^ k) == 1) = false := shl_eq hk (by decide) 0
 have f1 : (wrap64 ((2 : Int) ^ k) == 2) = false := shl_eq hk (by decide) 1
 have f2 : (wrap64 ((2 : Int) ^ k) == 4) = true := shl_eq hk (by decide) 2
 have f3 : (wrap64 ((2 : Int) ^ k) == 8) = false := shl_eq hk (by decide) 3
 have f4 : (wrap64 ((2 : Int) ^ k) == 16) = false := shl_eq hk (by decide) 4
 have f5 : (wrap64 ((2 : Int) ^ k) == 32) = false := shl_eq hk (by decide) 5
 have f6 : (wrap64 ((2 : Int) ^ k) == 64) = false := shl_eq hk (by decide) 6
 have f7 : (wrap64 ((2 : Int) ^ k) == 128) = false := shl_eq hk (by decide) 7
 have f8 : (wrap64 ((2 : Int) ^ k) == 256) = false := shl_eq hk (by decide) 8
 have f9 : (wrap64 ((2 : Int) ^ k) == 512) = false := shl_eq hk (by decide) 9
 have f10 : (wrap64 ((2 : Int) ^ k) == 1024) = false := shl_eq hk (by decide) 10
 have f11 : (wrap64 ((2 : Int) ^ k) == 2048) = false := shl_eq hk (by decide) 11
 have f12 : (wrap64 ((2 : Int) ^ k) == 4096) = false := shl_eq hk (by decide) 12
 have f13 : (wrap64 ((2 : Int) ^ k) == 8192) = false := shl_eq hk (by decide) 13
 have f14 : (wrap64 ((2 : Int) ^ k) == 16384) = false := shl_eq hk (by decide) 14
 have f16 : (wrap64 ((2 : Int) ^ k) == 65536) = false := shl_eq hk (by decide) 16
 have g2 : (k : Int) < 17 := by omega
 clear hk
 go_enter Tryz.func75, Tryz.ntmps75
 repeat (first | (refine wp_exit ?_; repeat (first | refine then_exit ?_ | refine inBlock_same ?_ | refine inBlock_other rfl ?_)) | (refine wp_ret ?_; repeat (first | refine then_ret ?_ | refine inBlock_ret ?_)) | go_step)
 go_ret
 exact ⟨rfl, Below.refl _ _⟩
theorem kw3 (k : Nat) (hk : k = 3) (w : World) :
 Calls Tryz.prog 75 #[.int .i64 k] w fun e w' => e = .returned (.string (B (kwT.getD 3 []))) ∧ Below w.heap.size w w' := by
 have f0 : (wrap64 ((2 : Int) ^ k) == 1) = false := shl_eq hk (by decide) 0
 have f1 : (wrap64 ((2 : Int) ^ k) == 2) = false := shl_eq hk (by decide) 1
 have f2 : (wrap64 ((2 : Int) ^ k) == 4) = false := shl_eq hk (by decide) 2
 have f3 : (wrap64 ((2 : Int) ^ k) == 8) = true := shl_eq hk (by decide) 3
 have f4 : (wrap64 ((2 : Int) ^ k) == 16) = false := shl_eq hk (by decide) 4
 have f5 : (wrap64 ((2 : Int) ^ k) == 32) = false := shl_eq hk (by decide) 5
 have f6 : (wrap64 ((2 : Int) ^ k) == 64) = false := shl_eq hk (by decide) 6
 have f7 : (wrap64 ((2 : Int) ^ k) == 128) = false := shl_eq hk (by decide) 7
 have f8 : (wrap64 ((2 : Int) ^ k) == 256) = false := shl_eq hk (by decide) 8
 have f9 : (wrap64 ((2 : Int) ^ k) == 512) = false := shl_eq hk (by decide) 9
 have f10 : (wrap64 ((2 : Int) ^ k) == 1024) = false := shl_eq hk (by decide) 10
 have f11 : (wrap64 ((2 : Int) ^ k) == 2048) = false := shl_eq hk (by decide) 11
 have f12 : (wrap64 ((2 : Int) ^ k) == 4096) = false := shl_eq hk (by decide) 12
 have f13 : (wrap64 ((2 : Int) ^ k) == 8192) = false := shl_eq hk (by decide) 13
 have f14 : (wrap64 ((2 : Int) ^ k) == 16384) = false := shl_eq hk (by decide) 14
 have f16 : (wrap64 ((2 : Int) ^ k) == 65536) = false := shl_eq hk (by decide) 16
 have g2 : (k : Int) < 17 := by omega
 clear hk
 go_enter Tryz.func75, Tryz.ntmps75
 repeat (first | (refine wp_exit ?_; repeat (first | refine then_exit ?_ | refine inBlock_same ?_ | refine inBlock_other rfl ?_)) | (refine wp_ret ?_; repeat (first | refine then_ret ?_ | refine inBlock_ret ?_)) | go_step)
 go_ret
 exact ⟨rfl, Below.refl _ _⟩
theorem kw4 (k : Nat) (hk : k = 4) (w : World) :
 Calls Tryz.prog 75 #[.int .i64 k] w fun e w' => e = .returned (.string (B (kwT.getD 4 []))) ∧ Below w.heap.size w w' := by
 have f0 : (wrap64 ((2 : Int) ^ k) == 1) = false := shl_eq hk (by decide) 0
 have f1 : (wrap64 ((2 : Int) ^ k) == 2) = false := shl_eq hk (by decide) 1
 have f2 : (wrap64 ((2 : Int) ^ k) == 4) = false := shl_eq hk (by decide) 2
 have f3 : (wrap64 ((2 : Int) ^ k) == 8) = false := shl_eq hk (by decide) 3
 have f4 : (wrap64 ((2 : Int) ^ k) == 16) = true := shl_eq hk (by decide) 4
 have f5 : (wrap64 ((2 : Int) ^ k) == 32) = false := shl_eq hk (by decide) 5
 have f6 : (wrap64 ((2 : Int) ^ k) == 64) = false := shl_eq hk (by decide) 6
 have f7 : (wrap64 ((2 : Int) ^ k) == 128) = false := shl_eq hk (by decide) 7
 have f8 : (wrap64 ((2 : Int) ^ k) == 256) = false := shl_eq hk (by decide) 8
 have f9 : (wrap64 ((2 : Int) ^ k) == 512) = false := shl_eq hk (by decide) 9
 have f10 : (wrap64 ((2 : Int) ^ k) == 1024) = false := shl_eq hk (by decide) 10
 have f11 : (wrap64 ((2 : Int) ^ k) == 2048) = false := shl_eq hk (by decide) 11
 have f12 : (wrap64 ((2 : Int) ^ k) == 4096) = false := shl_eq hk (by decide) 12
 have f13 : (wrap64 ((2 : Int) ^ k) == 8192) = false := shl_eq hk (by decide) 13
 have f14 : (wrap64 ((2 : Int) ^ k) == 16384) = false := shl_eq hk (by decide) 14
 have f16 : (wrap64 ((2 : Int) ^ k) == 65536) = false := shl_eq hk (by decide) 16
 have g2 : (k : Int) < 17 := by omega
 clear hk
 go_enter Tryz.func75, Tryz.ntmps75
 repeat (first | (refine wp_exit ?_; repeat (first | refine then_exit ?_ | refine inBlock_same ?_ | refine inBlock_other rfl ?_)) | (refine wp_ret ?_; repeat (first | refine then_ret ?_ | refine inBlock_ret ?_)) | go_step)
 go_ret
 exact ⟨rfl, Below.refl _ _⟩
theorem kw5 (k : Nat) (hk : k = 5) (w : World) :
 Calls Tryz.prog 75 #[.int .i64 k] w fun e w' => e = .returned (.string (B (kwT.getD 5 []))) ∧ Below w.heap.size w w' := by
 have f0 : (wrap64 ((2 : Int) ^ k) == 1) = false := shl_eq hk (by decide) 0
 have f1 : (wrap64 ((2 : Int) ^ k) == 2) = false := shl_eq hk (by decide) 1
 have f2 : (wrap64 ((2 : Int) ^ k) == 4) = false := shl_eq hk (by decide) 2
 have f3 : (wrap64 ((2 : Int) ^ k) == 8) = false := shl_eq hk (by decide) 3
 have f4 : (wrap64 ((2 : Int) ^ k) == 16) = false := shl_eq hk (by decide) 4
 have f5 : (wrap64 ((2 : Int) ^ k) == 32) = true := shl_eq hk (by decide) 5
 have f6 : (wrap64 ((2 : Int) ^ k) == 64) = false := shl_eq hk (by decide) 6
 have f7 : (wrap64 ((2 : Int) ^ k) == 128) = false := shl_eq hk (by decide) 7
 have f8 : (wrap64 ((2 : Int) ^ k) == 256) = false := shl_eq hk (by decide) 8
 have f9 : (wrap64 ((2 : Int) ^ k) == 512) = false := shl_eq hk (by decide) 9
 have f10 : (wrap64 ((2 : Int) ^ k) == 1024) = false := shl_eq hk (by decide) 10
 have f11 : (wrap64 ((2 : Int) ^ k) == 2048) = false := shl_eq hk (by decide) 11
 have f12 : (wrap64 ((2 : Int) ^ k) == 4096) = false := shl_eq hk (by decide) 12
 have f13 : (wrap64 ((2 : Int) ^ k) == 8192) = false := shl_eq hk (by decide) 13
 have f14 : (wrap64 ((2 : Int) ^ k) == 16384) = false := shl_eq hk (by decide) 14
 have f16 : (wrap64 ((2 : Int) ^ k) == 65536) = false := shl_eq hk (by decide) 16
 have g2 : (k : Int) < 17 := by omega
 clear hk
 go_enter Tryz.func75, Tryz.ntmps75
 repeat (first | (refine wp_exit ?_; repeat (first | refine then_exit ?_ | refine inBlock_same ?_ | refine inBlock_other rfl ?_)) | (refine wp_ret ?_; repeat (first | refine then_ret ?_ | refine inBlock_ret ?_)) | (go_at_call 121; refine (cmpOr_any ⟨#[102, 105, 114, 115, 116]⟩ ⟨#[100, 111, 117, 98, 108, 101]⟩ _ _ ⟨#[102, 105, 114, 115, 116]⟩ (two_new0 _ _ _ _) (two_new1 _ _ _ _) (by simp) (by simp)).mono ?_; rintro e w' ⟨rfl, rfl⟩; dsimp only) | go_step)
 go_ret
 exact ⟨rfl, (Below.refl _ _).alloc (Nat.le_refl _) _⟩
theorem kw6 (k : Nat) (hk : k = 6) (w : World) :
 Calls Tryz.prog 75 #[.int .i64 k] w fun e w' => e = .returned (.string (B (kwT.getD 6 []))) ∧ Below w.heap.size w w' := by
 have f0 : (wrap64 ((2 : Int) ^ k) == 1) = false := shl_eq hk (by decide) 0
 have f1 : (wrap64 ((2 : Int) ^ k) == 2) = false := shl_eq hk (by decide) 1
 have f2 : (wrap64 ((2 : Int) ^ k) == 4) = false := shl_eq hk (by decide) 2
 have f3 : (wrap64 ((2 : Int) ^ k) == 8) = false := shl_eq hk (by decide) 3
 have f4 : (wrap64 ((2 : Int) ^ k) == 16) = false := shl_eq hk (by decide) 4
 have f5 : (wrap64 ((2 : Int) ^ k) == 32) = false := shl_eq hk (by decide) 5
 have f6 : (wrap64 ((2 : Int) ^ k) == 64) = true := shl_eq hk (by decide) 6
 have f7 : (wrap64 ((2 : Int) ^ k) == 128) = false := shl_eq hk (by decide) 7
 have f8 : (wrap64 ((2 : Int) ^ k) == 256) = false := shl_eq hk (by decide) 8
 have f9 : (wrap64 ((2 : Int) ^ k) == 512) = false := shl_eq hk (by decide) 9
 have f10 : (wrap64 ((2 : Int) ^ k) == 1024) = false := shl_eq hk (by decide) 10
 have f11 : (wrap64 ((2 : Int) ^ k) == 2048) = false := shl_eq hk (by decide) 11
 have f12 : (wrap64 ((2 : Int) ^ k) == 4096) = false := shl_eq hk (by decide) 12
 have f13 : (wrap64 ((2 : Int) ^ k) == 8192) = false := shl_eq hk (by decide) 13
 have f14 : (wrap64 ((2 : Int) ^ k) == 16384) = false := shl_eq hk (by decide) 14
 have f16 : (wrap64 ((2 : Int) ^ k) == 65536) = false := shl_eq hk (by decide) 16
 have g2 : (k : Int) < 17 := by omega
 clear hk
 go_enter Tryz.func75, Tryz.ntmps75
 repeat (first | (refine wp_exit ?_; repeat (first | refine then_exit ?_ | refine inBlock_same ?_ | refine inBlock_other rfl ?_)) | (refine wp_ret ?_; repeat (first | refine then_ret ?_ | refine inBlock_ret ?_)) | (go_at_call 121; refine (cmpOr_any ⟨#[]⟩ ⟨#[100, 111, 117, 98, 108, 101]⟩ _ _ ⟨#[100, 111, 117, 98, 108, 101]⟩ (two_new0 _ _ _ _) (two_new1 _ _ _ _) (by simp) (by simp)).mono ?_; rintro e w' ⟨rfl, rfl⟩; dsimp only) | go_step)
 go_ret
 exact ⟨rfl, (Below.refl _ _).alloc (Nat.le_refl _) _⟩
theorem kw7 (k : Nat) (hk : k = 7) (w : World) :
 Calls Tryz.prog 75 #[.int .i64 k] w fun e w' => e = .returned (.string (B (kwT.getD 7 []))) ∧ Below w.heap.size w w' := by
 have f0 : (wrap64 ((2 : Int) ^ k) == 1) = false := shl_eq hk (by decide) 0
 have f1 : (wrap64 ((2 : Int) ^ k) == 2) = false := shl_eq hk (by decide) 1
 have f2 : (wrap64 ((2 : Int) ^ k) == 4) = false := shl_eq hk (by decide) 2
 have f3 : (wrap64 ((2 : Int) ^ k) == 8) = false := shl_eq hk (by decide) 3
 have f4 : (wrap64 ((2 : Int) ^ k) == 16) = false := shl_eq hk (by decide) 4
 have f5 : (wrap64 ((2 : Int) ^ k) == 32) = false := shl_eq hk (by decide) 5
 have f6 : (wrap64 ((2 : Int) ^ k) == 64) = false := shl_eq hk (by decide) 6
 have f7 : (wrap64 ((2 : Int) ^ k) == 128) = true := shl_eq hk (by decide) 7
 have f8 : (wrap64 ((2 : Int) ^ k) == 256) = false := shl_eq hk (by decide) 8
 have f9 : (wrap64 ((2 : Int) ^ k) == 512) = false := shl_eq hk (by decide) 9
 have f10 : (wrap64 ((2 : Int) ^ k) == 1024) = false := shl_eq hk (by decide) 10
 have f11 : (wrap64 ((2 : Int) ^ k) == 2048) = false := shl_eq hk (by decide) 11
 have f12 : (wrap64 ((2 : Int) ^ k) == 4096) = false := shl_eq hk (by decide) 12
 have f13 : (wrap64 ((2 : Int) ^ k) == 8192) = false := shl_eq hk (by decide) 13
 have f14 : (wrap64 ((2 : Int) ^ k) == 16384) = false := shl_eq hk (by decide) 14
 have f16 : (wrap64 ((2 : Int) ^ k) == 65536) = false := shl_eq hk (by decide) 16
 have g2 : (k : Int) < 17 := by omega
 clear hk
 go_enter Tryz.func75, Tryz.ntmps75
 repeat (first | (refine wp_exit ?_; repeat (first | refine then_exit ?_ | refine inBlock_same ?_ | refine inBlock_other rfl ?_)) | (refine wp_ret ?_; repeat (first | refine then_ret ?_ | refine inBlock_ret ?_)) | go_step)
 go_ret
 exact ⟨rfl, Below.refl _ _⟩
theorem kw8 (k : Nat) (hk : k = 8) (w : World) :
 Calls Tryz.prog 75 #[.int .i64 k] w fun e w' => e = .returned (.string (B (kwT.getD 8 []))) ∧ Below w.heap.size w w' := by
 have f0 : (wrap64 ((2 : Int) ^ k) == 1) = false := shl_eq hk (by decide) 0
 have f1 : (wrap64 ((2 : Int) ^ k) == 2) = false := shl_eq hk (by decide) 1
 have f2 : (wrap64 ((2 : Int) ^ k) == 4) = false := shl_eq hk (by decide) 2
 have f3 : (wrap64 ((2 : Int) ^ k) == 8) = false := shl_eq hk (by decide) 3
 have f4 : (wrap64 ((2 : Int) ^ k) == 16) = false := shl_eq hk (by decide) 4
 have f5 : (wrap64 ((2 : Int) ^ k) == 32) = false := shl_eq hk (by decide) 5
 have f6 : (wrap64 ((2 : Int) ^ k) == 64) = false := shl_eq hk (by decide) 6
 have f7 : (wrap64 ((2 : Int) ^ k) == 128) = false := shl_eq hk (by decide) 7
 have f8 : (wrap64 ((2 : Int) ^ k) == 256) = true := shl_eq hk (by decide) 8
 have f9 : (wrap64 ((2 : Int) ^ k) == 512) = false := shl_eq hk (by decide) 9
 have f10 : (wrap64 ((2 : Int) ^ k) == 1024) = false := shl_eq hk (by decide) 10
 have f11 : (wrap64 ((2 : Int) ^ k) == 2048) = false := shl_eq hk (by decide) 11
 have f12 : (wrap64 ((2 : Int) ^ k) == 4096) = false := shl_eq hk (by decide) 12
 have f13 : (wrap64 ((2 : Int) ^ k) == 8192) = false := shl_eq hk (by decide) 13
 have f14 : (wrap64 ((2 : Int) ^ k) == 16384) = false := shl_eq hk (by decide) 14
 have f16 : (wrap64 ((2 : Int) ^ k) == 65536) = false := shl_eq hk (by decide) 16
 have g2 : (k : Int) < 17 := by omega
 clear hk
 go_enter Tryz.func75, Tryz.ntmps75
 repeat (first | (refine wp_exit ?_; repeat (first | refine then_exit ?_ | refine inBlock_same ?_ | refine inBlock_other rfl ?_)) | (refine wp_ret ?_; repeat (first | refine then_ret ?_ | refine inBlock_ret ?_)) | go_step)
 go_ret
 exact ⟨rfl, Below.refl _ _⟩
theorem kw9 (k : Nat) (hk : k = 9) (w : World) :
 Calls Tryz.prog 75 #[.int .i64 k] w fun e w' => e = .returned (.string (B (kwT.getD 9 []))) ∧ Below w.heap.size w w' := by
 have f0 : (wrap64 ((2 : Int) ^ k) == 1) = false := shl_eq hk (by decide) 0
 have f1 : (wrap64 ((2 : Int) ^ k) == 2) = false := shl_eq hk (by decide) 1
 have f2 : (wrap64 ((2 : Int) ^ k) == 4) = false := shl_eq hk (by decide) 2
 have f3 : (wrap64 ((2 : Int) ^ k) == 8) = false := shl_eq hk (by decide) 3
 have f4 : (wrap64 ((2 : Int) ^ k) == 16) = false := shl_eq hk (by decide) 4
 have f5 : (wrap64 ((2 : Int) ^ k) == 32) = false := shl_eq hk (by decide) 5
 have f6 : (wrap64 ((2 : Int) ^ k) == 64) = false := shl_eq hk (by decide) 6
 have f7 : (wrap64 ((2 : Int) ^ k) == 128) = false := shl_eq hk (by decide) 7
 have f8 : (wrap64 ((2 : Int) ^ k) == 256) = false := shl_eq hk (by decide) 8
 have f9 : (wrap64 ((2 : Int) ^ k) == 512) = true := shl_eq hk (by decide) 9
 have f10 : (wrap64 ((2 : Int) ^ k) == 1024) = false := shl_eq hk (by decide) 10
 have f11 : (wrap64 ((2 : Int) ^ k) == 2048) = false := shl_eq hk (by decide) 11
 have f12 : (wrap64 ((2 : Int) ^ k) == 4096) = false := shl_eq hk (by decide) 12
 have f13 : (wrap64 ((2 : Int) ^ k) == 8192) = false := shl_eq hk (by decide) 13
 have f14 : (wrap64 ((2 : Int) ^ k) == 16384) = false := shl_eq hk (by decide) 14
 have f16 : (wrap64 ((2 : Int) ^ k) == 65536) = false := shl_eq hk (by decide) 16
 have g2 : (k : Int) < 17 := by omega
 clear hk
 go_enter Tryz.func75, Tryz.ntmps75
 repeat (first | (refine wp_exit ?_; repeat (first | refine then_exit ?_ | refine inBlock_same ?_ | refine inBlock_other rfl ?_)) | (refine wp_ret ?_; repeat (first | refine then_ret ?_ | refine inBlock_ret ?_)) | go_step)
 go_ret
 exact ⟨rfl, Below.refl _ _⟩
theorem kw10 (k : Nat) (hk : k = 10) (w : World) :
 Calls Tryz.prog 75 #[.int .i64 k] w fun e w' => e = .returned (.string (B (kwT.getD 10 []))) ∧ Below w.heap.size w w' := by
 have f0 : (wrap64 ((2 : Int) ^ k) == 1) = false := shl_eq hk (by decide) 0
 have f1 : (wrap64 ((2 : Int) ^ k) == 2) = false := shl_eq hk (by decide) 1
 have f2 : (wrap64 ((2 : Int) ^ k) == 4) = false := shl_eq hk (by decide) 2
 have f3 : (wrap64 ((2 : Int) ^ k) == 8) = false := shl_eq hk (by decide) 3
 have f4 : (wrap64 ((2 : Int) ^ k) == 16) = false := shl_eq hk (by decide) 4
 have f5 : (wrap64 ((2 : Int) ^ k) == 32) = false := shl_eq hk (by decide) 5
 have f6 : (wrap64 ((2 : Int) ^ k) == 64) = false := shl_eq hk (by decide) 6
 have f7 : (wrap64 ((2 : Int) ^ k) == 128) = false := shl_eq hk (by decide) 7
 have f8 : (wrap64 ((2 : Int) ^ k) == 256) = false := shl_eq hk (by decide) 8
 have f9 : (wrap64 ((2 : Int) ^ k) == 512) = false := shl_eq hk (by decide) 9
 have f10 : (wrap64 ((2 : Int) ^ k) == 1024) = true := shl_eq hk (by decide) 10
 have f11 : (wrap64 ((2 : Int) ^ k) == 2048) = false := shl_eq hk (by decide) 11
 have f12 : (wrap64 ((2 : Int) ^ k) == 4096) = false := shl_eq hk (by decide) 12
 have f13 : (wrap64 ((2 : Int) ^ k) == 8192) = false := shl_eq hk (by decide) 13
 have f14 : (wrap64 ((2 : Int) ^ k) == 16384) = false := shl_eq hk (by decide) 14
 have f16 : (wrap64 ((2 : Int) ^ k) == 65536) = false := shl_eq hk (by decide) 16
 have g2 : (k : Int) < 17 := by omega
 clear hk
 go_enter Tryz.func75, Tryz.ntmps75
 repeat (first | (refine wp_exit ?_; repeat (first | refine then_exit ?_ | refine inBlock_same ?_ | refine inBlock_other rfl ?_)) | (refine wp_ret ?_; repeat (first | refine then_ret ?_ | refine inBlock_ret ?_)) | go_step)
 go_ret
 exact ⟨rfl, Below.refl _ _⟩
theorem kw11 (k : Nat) (hk : k = 11) (w : World) :
 Calls Tryz.prog 75 #[.int .i64 k] w fun e w' => e = .returned (.string (B (kwT.getD 11 []))) ∧ Below w.heap.size w w' := by
 have f0 : (wrap64 ((2 : Int) ^ k) == 1) = false := shl_eq hk (by decide) 0
 have f1 : (wrap64 ((2 : Int) ^ k) == 2) = false := shl_eq hk (by decide) 1
 have f2 : (wrap64 ((2 : Int) ^ k) == 4) = false := shl_eq hk (by decide) 2
 have f3 : (wrap64 ((2 : Int) ^ k) == 8) = false := shl_eq hk (by decide) 3
 have f4 : (wrap64 ((2 : Int) ^ k) == 16) = false := shl_eq hk (by decide) 4
 have f5 : (wrap64 ((2 : Int) ^ k) == 32) = false := shl_eq hk (by decide) 5
 have f6 : (wrap64 ((2 : Int) ^ k) == 64) = false := shl_eq hk (by decide) 6
 have f7 : (wrap64 ((2 : Int) ^ k) == 128) = false := shl_eq hk (by decide) 7
 have f8 : (wrap64 ((2 : Int) ^ k) == 256) = false := shl_eq hk (by decide) 8
 have f9 : (wrap64 ((2 : Int) ^ k) == 512) = false := shl_eq hk (by decide) 9
 have f10 : (wrap64 ((2 : Int) ^ k) == 1024) = false := shl_eq hk (by decide) 10
 have f11 : (wrap64 ((2 : Int) ^ k) == 2048) = true := shl_eq hk (by decide) 11
 have f12 : (wrap64 ((2 : Int) ^ k) == 4096) = false := shl_eq hk (by decide) 12
 have f13 : (wrap64 ((2 : Int) ^ k) == 8192) = false := shl_eq hk (by decide) 13
 have f14 : (wrap64 ((2 : Int) ^ k) == 16384) = false := shl_eq hk (by decide) 14
 have f16 : (wrap64 ((2 : Int) ^ k) == 65536) = false := shl_eq hk (by decide) 16
 have g2 : (k : Int) < 17 := by omega
 clear hk
 go_enter Tryz.func75, Tryz.ntmps75
 repeat (first | (refine wp_exit ?_; repeat (first | refine then_exit ?_ | refine inBlock_same ?_ | refine inBlock_other rfl ?_)) | (refine wp_ret ?_; repeat (first | refine then_ret ?_ | refine inBlock_ret ?_)) | go_step)
 go_ret
 exact ⟨rfl, Below.refl _ _⟩
theorem kw12 (k : Nat) (hk : k = 12) (w : World) :
 Calls Tryz.prog 75 #[.int .i64 k] w fun e w' => e = .returned (.string (B (kwT.getD 12 []))) ∧ Below w.heap.size w w' := by
 have f0 : (wrap64 ((2 : Int) ^ k) == 1) = false := shl_eq hk (by decide) 0
 have f1 : (wrap64 ((2 : Int) ^ k) == 2) = false := shl_eq hk (by decide) 1
 have f2 : (wrap64 ((2 : Int) ^ k) == 4) = false := shl_eq hk (by decide) 2
 have f3 : (wrap64 ((2 : Int) ^ k) == 8) = false := shl_eq hk (by decide) 3
 have f4 : (wrap64 ((2 : Int) ^ k) == 16) = false := shl_eq hk (by decide) 4
 have f5 : (wrap64 ((2 : Int) ^ k) == 32) = false := shl_eq hk (by decide) 5
 have f6 : (wrap64 ((2 : Int) ^ k) == 64) = false := shl_eq hk (by decide) 6
 have f7 : (wrap64 ((2 : Int) ^ k) == 128) = false := shl_eq hk (by decide) 7
 have f8 : (wrap64 ((2 : Int) ^ k) == 256) = false := shl_eq hk (by decide) 8
 have f9 : (wrap64 ((2 : Int) ^ k) == 512) = false := shl_eq hk (by decide) 9
 have f10 : (wrap64 ((2 : Int) ^ k) == 1024) = false := shl_eq hk (by decide) 10
 have f11 : (wrap64 ((2 : Int) ^ k) == 2048) = false := shl_eq hk (by decide) 11
 have f12 : (wrap64 ((2 : Int) ^ k) == 4096) = true := shl_eq hk (by decide) 12
 have f13 : (wrap64 ((2 : Int) ^ k) == 8192) = false := shl_eq hk (by decide) 13
 have f14 : (wrap64 ((2 : Int) ^ k) == 16384) = false := shl_eq hk (by decide) 14
 have f16 : (wrap64 ((2 : Int) ^ k) == 65536) = false := shl_eq hk (by decide) 16
 have g2 : (k : Int) < 17 := by omega
 clear hk
 go_enter Tryz.func75, Tryz.ntmps75
 repeat (first | (refine wp_exit ?_; repeat (first | refine then_exit ?_ | refine inBlock_same ?_ | refine inBlock_other rfl ?_)) | (refine wp_ret ?_; repeat (first | refine then_ret ?_ | refine inBlock_ret ?_)) | go_step)
 go_ret
 exact ⟨rfl, Below.refl _ _⟩
theorem kw13 (k : Nat) (hk : k = 13) (w : World) :
 Calls Tryz.prog 75 #[.int .i64 k] w fun e w' => e = .returned (.string (B (kwT.getD 13 []))) ∧ Below w.heap.size w w' := by
 have f0 : (wrap64 ((2 : Int) ^ k) == 1) = false := shl_eq hk (by decide) 0
 have f1 : (wrap64 ((2 : Int) ^ k) == 2) = false := shl_eq hk (by decide) 1
 have f2 : (wrap64 ((2 : Int) ^ k) == 4) = false := shl_eq hk (by decide) 2
 have f3 : (wrap64 ((2 : Int) ^ k) == 8) = false := shl_eq hk (by decide) 3
 have f4 : (wrap64 ((2 : Int) ^ k) == 16) = false := shl_eq hk (by decide) 4
 have f5 : (wrap64 ((2 : Int) ^ k) == 32) = false := shl_eq hk (by decide) 5
 have f6 : (wrap64 ((2 : Int) ^ k) == 64) = false := shl_eq hk (by decide) 6
 have f7 : (wrap64 ((2 : Int) ^ k) == 128) = false := shl_eq hk (by decide) 7
 have f8 : (wrap64 ((2 : Int) ^ k) == 256) = false := shl_eq hk (by decide) 8
 have f9 : (wrap64 ((2 : Int) ^ k) == 512) = false := shl_eq hk (by decide) 9
 have f10 : (wrap64 ((2 : Int) ^ k) == 1024) = false := shl_eq hk (by decide) 10
 have f11 : (wrap64 ((2 : Int) ^ k) == 2048) = false := shl_eq hk (by decide) 11
 have f12 : (wrap64 ((2 : Int) ^ k) == 4096) = false := shl_eq hk (by decide) 12
 have f13 : (wrap64 ((2 : Int) ^ k) == 8192) = true := shl_eq hk (by decide) 13
 have f14 : (wrap64 ((2 : Int) ^ k) == 16384) = false := shl_eq hk (by decide) 14
 have f16 : (wrap64 ((2 : Int) ^ k) == 65536) = false := shl_eq hk (by decide) 16
 have g2 : (k : Int) < 17 := by omega
 clear hk
 go_enter Tryz.func75, Tryz.ntmps75
 repeat (first | (refine wp_exit ?_; repeat (first | refine then_exit ?_ | refine inBlock_same ?_ | refine inBlock_other rfl ?_)) | (refine wp_ret ?_; repeat (first | refine then_ret ?_ | refine inBlock_ret ?_)) | go_step)
 go_ret
 exact ⟨rfl, Below.refl _ _⟩
theorem kw14 (k : Nat) (hk : k = 14) (w : World) :
 Calls Tryz.prog 75 #[.int .i64 k] w fun e w' => e = .returned (.string (B (kwT.getD 14 []))) ∧ Below w.heap.size w w' := by
 have f0 : (wrap64 ((2 : Int) ^ k) == 1) = false := shl_eq hk (by decide) 0
 have f1 : (wrap64 ((2 : Int) ^ k) == 2) = false := shl_eq hk (by decide) 1
 have f2 : (wrap64 ((2 : Int) ^ k) == 4) = false := shl_eq hk (by decide) 2
 have f3 : (wrap64 ((2 : Int) ^ k) == 8) = false := shl_eq hk (by decide) 3
 have f4 : (wrap64 ((2 : Int) ^ k) == 16) = false := shl_eq hk (by decide) 4
 have f5 : (wrap64 ((2 : Int) ^ k) == 32) = false := shl_eq hk (by decide) 5
 have f6 : (wrap64 ((2 : Int) ^ k) == 64) = false := shl_eq hk (by decide) 6
 have f7 : (wrap64 ((2 : Int) ^ k) == 128) = false := shl_eq hk (by decide) 7
 have f8 : (wrap64 ((2 : Int) ^ k) == 256) = false := shl_eq hk (by decide) 8
 have f9 : (wrap64 ((2 : Int) ^ k) == 512) = false := shl_eq hk (by decide) 9
 have f10 : (wrap64 ((2 : Int) ^ k) == 1024) = false := shl_eq hk (by decide) 10
 have f11 : (wrap64 ((2 : Int) ^ k) == 2048) = false := shl_eq hk (by decide) 11
 have f12 : (wrap64 ((2 : Int) ^ k) == 4096) = false := shl_eq hk (by decide) 12
 have f13 : (wrap64 ((2 : Int) ^ k) == 8192) = false := shl_eq hk (by decide) 13
 have f14 : (wrap64 ((2 : Int) ^ k) == 16384) = true := shl_eq hk (by decide) 14
 have f16 : (wrap64 ((2 : Int) ^ k) == 65536) = false := shl_eq hk (by decide) 16
 have g2 : (k : Int) < 17 := by omega
 clear hk
 go_enter Tryz.func75, Tryz.ntmps75
 repeat (first | (refine wp_exit ?_; repeat (first | refine then_exit ?_ | refine inBlock_same ?_ | refine inBlock_other rfl ?_)) | (refine wp_ret ?_; repeat (first | refine then_ret ?_ | refine inBlock_ret ?_)) | (go_at_call 121; refine (cmpOr_any ⟨#[110, 111]⟩ ⟨#[109, 117, 115, 116]⟩ _ _ ⟨#[110, 111]⟩ (two_new0 _ _ _ _) (two_new1 _ _ _ _) (by simp) (by simp)).mono ?_; rintro e w' ⟨rfl, rfl⟩; dsimp only) | go_step)
 go_ret
 exact ⟨rfl, (Below.refl _ _).alloc (Nat.le_refl _) _⟩
theorem kw15 (k : Nat) (hk : k = 15) (w : World) :
 Calls Tryz.prog 75 #[.int .i64 k] w fun e w' => e = .returned (.string (B (kwT.getD 15 []))) ∧ Below w.heap.size w w' := by
 have f0 : (wrap64 ((2 : Int) ^ k) == 1) = false := shl_eq hk (by decide) 0
 have f1 : (wrap64 ((2 : Int) ^ k) == 2) = false := shl_eq hk (by decide) 1
 have f2 : (wrap64 ((2 : Int) ^ k) == 4) = false := shl_eq hk (by decide) 2
 have f3 : (wrap64 ((2 : Int) ^ k) == 8) = false := shl_eq hk (by decide) 3
 have f4 : (wrap64 ((2 : Int) ^ k) == 16) = false := shl_eq hk (by decide) 4
 have f5 : (wrap64 ((2 : Int) ^ k) == 32) = false := shl_eq hk (by decide) 5
 have f6 : (wrap64 ((2 : Int) ^ k) == 64) = false := shl_eq hk (by decide) 6
 have f7 : (wrap64 ((2 : Int) ^ k) == 128) = false := shl_eq hk (by decide) 7
 have f8 : (wrap64 ((2 : Int) ^ k) == 256) = false := shl_eq hk (by decide) 8
 have f9 : (wrap64 ((2 : Int) ^ k) == 512) = false := shl_eq hk (by decide) 9
 have f10 : (wrap64 ((2 : Int) ^ k) == 1024) = false := shl_eq hk (by decide) 10
 have f11 : (wrap64 ((2 : Int) ^ k) == 2048) = false := shl_eq hk (by decide) 11
 have f12 : (wrap64 ((2 : Int) ^ k) == 4096) = false := shl_eq hk (by decide) 12
 have f13 : (wrap64 ((2 : Int) ^ k) == 8192) = false := shl_eq hk (by decide) 13
 have f14 : (wrap64 ((2 : Int) ^ k) == 16384) = false := shl_eq hk (by decide) 14
 have f16 : (wrap64 ((2 : Int) ^ k) == 65536) = false := shl_eq hk (by decide) 16
 have g2 : (k : Int) < 17 := by omega
 clear hk
 go_enter Tryz.func75, Tryz.ntmps75
 repeat (first | (refine wp_exit ?_; repeat (first | refine then_exit ?_ | refine inBlock_same ?_ | refine inBlock_other rfl ?_)) | (refine wp_ret ?_; repeat (first | refine then_ret ?_ | refine inBlock_ret ?_)) | go_step)
 go_ret
 exact ⟨rfl, Below.refl _ _⟩
theorem kw16 (k : Nat) (hk : k = 16) (w : World) :
 Calls Tryz.prog 75 #[.int .i64 k] w fun e w' => e = .returned (.string (B (kwT.getD 16 []))) ∧ Below w.heap.size w w' := by
 have f0 : (wrap64 ((2 : Int) ^ k) == 1) = false := shl_eq hk (by decide) 0
 have f1 : (wrap64 ((2 : Int) ^ k) == 2) = false := shl_eq hk (by decide) 1
 have f2 : (wrap64 ((2 : Int) ^ k) == 4) = false := shl_eq hk (by decide) 2
 have f3 : (wrap64 ((2 : Int) ^ k) == 8) = false := shl_eq hk (by decide) 3
 have f4 : (wrap64 ((2 : Int) ^ k) == 16) = false := shl_eq hk (by decide) 4
 have f5 : (wrap64 ((2 : Int) ^ k) == 32) = false := shl_eq hk (by decide) 5
 have f6 : (wrap64 ((2 : Int) ^ k) == 64) = false := shl_eq hk (by decide) 6
 have f7 : (wrap64 ((2 : Int) ^ k) == 128) = false := shl_eq hk (by decide) 7
 have f8 : (wrap64 ((2 : Int) ^ k) == 256) = false := shl_eq hk (by decide) 8
 have f9 : (wrap64 ((2 : Int) ^ k) == 512) = false := shl_eq hk (by decide) 9
 have f10 : (wrap64 ((2 : Int) ^ k) == 1024) = false := shl_eq hk (by decide) 10
 have f11 : (wrap64 ((2 : Int) ^ k) == 2048) = false := shl_eq hk (by decide) 11
 have f12 : (wrap64 ((2 : Int) ^ k) == 4096) = false := shl_eq hk (by decide) 12
 have f13 : (wrap64 ((2 : Int) ^ k) == 8192) = false := shl_eq hk (by decide) 13
 have f14 : (wrap64 ((2 : Int) ^ k) == 16384) = false := shl_eq hk (by decide) 14
 have f16 : (wrap64 ((2 : Int) ^ k) == 65536) = true := shl_eq hk (by decide) 16
 have g2 : (k : Int) < 17 := by omega
 clear hk
 go_enter Tryz.func75, Tryz.ntmps75
 repeat (first | (refine wp_exit ?_; repeat (first | refine then_exit ?_ | refine inBlock_same ?_ | refine inBlock_other rfl ?_)) | (refine wp_ret ?_; repeat (first | refine then_ret ?_ | refine inBlock_ret ?_)) | (go_at_call 121; refine (cmpOr_any ⟨#[]⟩ ⟨#[109, 117, 115, 116]⟩ _ _ ⟨#[109, 117, 115, 116]⟩ (two_new0 _ _ _ _) (two_new1 _ _ _ _) (by simp) (by simp)).mono ?_; rintro e w' ⟨rfl, rfl⟩; dsimp only) | go_step)
 go_ret
 exact ⟨rfl, (Below.refl _ _).alloc (Nat.le_refl _) _⟩
theorem keyName_any (k : Nat) (hk : k < 17) (w : World) :
 Calls Tryz.prog 75 #[.int .i64 k] w fun e w' => e = .returned (.string (B (kwT.getD k []))) ∧ Below w.heap.size w w' := by
 rcases k with _ | _ | _ | _ | _ | _ | _ | _ | _ | _ | _ | _ | _ | _ | _ | _ | _ | k
 ·exact kw0 _ rfl w
 ·exact kw1 _ rfl w
 ·exact kw2 _ rfl w
 ·exact kw3 _ rfl w
 ·exact kw4 _ rfl w
 ·exact kw5 _ rfl w
 ·exact kw6 _ rfl w
 ·exact kw7 _ rfl w
 ·exact kw8 _ rfl w
 ·exact kw9 _ rfl w
 ·exact kw10 _ rfl w
 ·exact kw11 _ rfl w
 ·exact kw12 _ rfl w
 ·exact kw13 _ rfl w
 ·exact kw14 _ rfl w
 ·exact kw15 _ rfl w
 ·exact kw16 _ rfl w
 ·omega
end Go.Proofs.YtdnnbfbhifelkaaGreatDoor
