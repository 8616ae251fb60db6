/- Walks: package filter: Text. Conditions: Laid. -/
import Derived.Test.YtcbegdjmopgbbaaGreatDoorFIs
namespace Go.Proofs.YtcbegdjmopgbbaaGreatDoor
set_option linter.all false
open Go.ChangeShapes Go.WideShapes Go.RowKit
theorem idx_who (k : Nat) (hk : k < 3) : ∀ w, (Instr.index 49 (.agg #[.string ⟨#[]⟩, .string ⟨#[121, 111, 117, 114, 115]⟩, .string ⟨#[116, 104, 101, 105, 114, 115]⟩]) (.int .i64 k)).run Tryz.prog w = .ok (.string (B (wd whoT k))) w := by
  intro w; rcases k with _ | _ | _ | k
  · kernel_rfl
  · kernel_rfl
  · kernel_rfl
  · omega
theorem idx_self (k : Nat) (hk : k < 3) : ∀ w, (Instr.index 49 (.agg #[.string ⟨#[]⟩, .string ⟨#[115, 101, 108, 102]⟩, .string ⟨#[111, 116, 104, 101, 114]⟩]) (.int .i64 k)).run Tryz.prog w = .ok (.string (B (wd selfT k))) w := by
  intro w; rcases k with _ | _ | _ | k
  · kernel_rfl
  · kernel_rfl
  · kernel_rfl
  · omega
theorem idx_tap (k : Nat) (hk : k < 3) : ∀ w, (Instr.index 49 (.agg #[.string ⟨#[]⟩, .string ⟨#[116, 97, 112, 112, 101, 100]⟩, .string ⟨#[117, 110, 116, 97, 112, 112, 101, 100]⟩]) (.int .i64 k)).run Tryz.prog w = .ok (.string (B (wd tapT k))) w := by
  intro w; rcases k with _ | _ | _ | k
  · kernel_rfl
  · kernel_rfl
  · kernel_rfl
  · omega
theorem idx_sign (k : Nat) (hk : k < 4) : ∀ w, (Instr.index 75 (.agg #[.string ⟨#[]⟩, .string ⟨#[62, 61]⟩, .string ⟨#[60, 61]⟩, .string ⟨#[61]⟩]) (.int .i64 k)).run Tryz.prog w = .ok (.string (B (wd signT k))) w := by
  intro w; rcases k with _ | _ | _ | _ | k
  · kernel_rfl
  · kernel_rfl
  · kernel_rfl
  · kernel_rfl
  · omega
theorem boundText_any (name : ByteArray) (nl : Str) (hnl : L name = nl) (k n : Nat) (hk : k < 4) (hn : n ≤ 1000000) (hs : name.size ≤ 100) (w : World) (hl : Laid w) :
    Calls Tryz.prog 42 #[.string name, .agg #[.int .i64 k, .int .i64 n]] w fun e w' => e = .returned (.string (B (boundW nl k n))) ∧ Below w.heap.size w w' := by
  subst hnl
  have i0 := idx_sign k hk
  have hLb : Laid (w.alloc (.cells #[.int .i64 k, .int .i64 n] 23)) := hl.below ((Below.refl _ _).alloc (Nat.le_refl _) _)
  rcases Nat.eq_zero_or_pos k with h0 | h0
  · have e0 : wd signT k = [] := by subst h0; rfl
    have HD : Hid (boundW (L name) k n = []) := if_pos h0
    generalize boundW (L name) k n = R at *
    clear h0
    go_enter Tryz.func42, Tryz.ntmps42
    go_wp2
    go_ret
    exact ⟨ret_str (by rw [HD.out]; rfl), (Below.refl _ _).alloc (Nat.le_refl _) _⟩
  · have e1 : (wd signT k).isEmpty = false := by
      rcases k with _ | _ | _ | _ | k
      · omega
      · rfl
      · rfl
      · rfl
      · omega
    have e2 : ¬ wd signT k = [] := fun e => by rw [e] at e1; cases e1
    have hwl := wd_len (T := signT) (K := 2) (by decide) k
    have hil := Lib.itoa_length_le n (by omega) (by omega)
    have HD : Hid (boundW (L name) k n = L name ++ wd signT k ++ Lib.itoa n) := if_neg (by omega)
    generalize boundW (L name) k n = R at *
    clear h0
    go_enter Tryz.func42, Tryz.ntmps42
    go_wp2_with (go_at_call 20; (with_reducible refine (numText_any _ (by omega) (by omega) _ hLb).mono ?_); rintro e w2 ⟨rfl, hb2⟩)
    go_ret
    exact ⟨ret_str (L_inj (by simp [L_append, HD.out])), below_two ((Below.refl _ _).alloc (Nat.le_refl _) _) hb2⟩
/-- The writer of a call: block g holds the words l, at most N of them; block k holds cs; below block b nothing has turned since W0. -/
structure WS (W0 : World) (b g k : Nat) (cs : Array Value) (l : List Str) (N : Nat) (w : World) : Prop where
  wr : Wr TW w b g l
  le : l.length ≤ N
  bel : Below b W0 w
  lt : k < b
  box : ∀ j, w.cell? ⟨k, j, none⟩ = cs[j]?
theorem WS.below {W0 w w' : World} {b g k N : Nat} {cs : Array Value} {l : List Str} (h : WS W0 b g k cs l N w) (hb : Below w.heap.size w w') : WS W0 b g k cs l N w' :=
  ⟨h.wr.below hb, h.le, h.bel.trans (hb.mono (by have := h.wr.lt; omega)), h.lt, fun j => (hb.cell (p := ⟨k, j, none⟩) (by have := h.wr.lt; have := h.lt; show k < _; omega)).trans (h.box j)⟩
theorem WS.laid {W0 w : World} {b g k N : Nat} {cs : Array Value} {l : List Str} (h : WS W0 b g k cs l N w) (hl : LB b W0) : Laid w := (hl.below h.bel).laid
theorem WS.step {W0 w w' : World} {b g k N N' : Nat} {cs : Array Value} {l l' : List Str} (h : WS W0 b g k cs l N w) (h1 : Wr TW w' b g l') (h2 : l'.length ≤ N') (h3 : Below b w w') : WS W0 b g k cs l' N' w' :=
  ⟨h1, h2, h.bel.trans h3, h.lt, fun j => (h3.cell (p := ⟨k, j, none⟩) h.lt).trans (h.box j)⟩
theorem add_ws (s : ByteArray) {W0 w : World} {b g k N : Nat} {cs : Array Value} {l : List Str} (h : WS W0 b g k cs l N w) (hN : N < 1000) :
    Calls Tryz.prog 36 #[.pointer (some ⟨g, 0, none⟩), .string s] w fun e w' => e = .returned (.tuple #[]) ∧ WS W0 b g k cs (addW l (L s)) (N + 1) w' :=
  (add_any s w b g l h.wr (by have := h.le; omega)).mono fun e w' ⟨he, h1, h2, _⟩ => ⟨he, h.step h1 (by have := addW_len l (L s); have := h.le; omega) h2⟩
theorem maskType_ws (m : Nat) (p : ByteArray) (pl : Str) (hp : L p = pl) (hps : p.size ≤ 1000) (hm : m < 2 ^ 6) {W0 w : World} {b g k N : Nat} {cs : Array Value} {l : List Str} (h : WS W0 b g k cs l N w) (hN : N < 1000) :
    Calls Tryz.prog 38 #[.pointer (some ⟨g, 0, none⟩), .int .i64 m, .string p, .func (.func 39) #[] #[]] w fun e w' => e = .returned (.tuple #[]) ∧ WS W0 b g k cs (addMask l pl typeT m) (N + 31) w' :=
  (maskType_any m p pl hp w b g l h.wr (by have := h.le; omega) hm hps).mono fun e w' ⟨he, h1, h2, _⟩ => ⟨he, h.step h1 (by have := addMask_len l pl typeT m; have := h.le; omega) h2⟩
theorem maskColor_ws (m : Nat) (p : ByteArray) (pl : Str) (hp : L p = pl) (hps : p.size ≤ 1000) (hm : m < 2 ^ 5) {W0 w : World} {b g k N : Nat} {cs : Array Value} {l : List Str} (h : WS W0 b g k cs l N w) (hN : N < 1000) (hl : LB b W0) :
    Calls Tryz.prog 38 #[.pointer (some ⟨g, 0, none⟩), .int .i64 m, .string p, .func (.func 40) #[] #[]] w fun e w' => e = .returned (.tuple #[]) ∧ WS W0 b g k cs (addMask l pl colorT m) (N + 31) w' :=
  (maskColor_any m p pl hp w b g l h.wr (by have := h.le; omega) hm hps (hl.below h.bel)).mono fun e w' ⟨he, h1, h2, _⟩ => ⟨he, h.step h1 (by have := addMask_len l pl colorT m; have := h.le; omega) h2⟩
theorem maskKey_ws (m : Nat) (p : ByteArray) (pl : Str) (hp : L p = pl) (hps : p.size ≤ 1000) (hm : m < 2 ^ 17) {W0 w : World} {b g k N : Nat} {cs : Array Value} {l : List Str} (h : WS W0 b g k cs l N w) (hN : N < 1000) :
    Calls Tryz.prog 38 #[.pointer (some ⟨g, 0, none⟩), .int .i64 m, .string p, .func (.func 41) #[] #[]] w fun e w' => e = .returned (.tuple #[]) ∧ WS W0 b g k cs (addMask l pl kwT m) (N + 31) w' :=
  (maskKey_any m p pl hp w b g l h.wr (by have := h.le; omega) hm hps).mono fun e w' ⟨he, h1, h2, _⟩ => ⟨he, h.step h1 (by have := addMask_len l pl kwT m; have := h.le; omega) h2⟩
theorem WS.start {w w1 : World} {cs : Array Value} {t : Nat} (hb : Below (w.alloc (.cells cs t)).heap.size (w.alloc (.cells cs t)) w1) :
    WS (w1.alloc (.cells #[.slice none 0 0] TW)) w1.heap.size w1.heap.size w.heap.size cs [] 0 (w1.alloc (.cells #[.slice none 0 0] TW)) := by
  have hs := hb.size
  simp at hs
  refine ⟨⟨_, heap_alloc_new w1 _, Nat.le_refl _, Texts.nil _ _⟩, Nat.le_refl _, Below.refl _ _, by omega, fun j => ?_⟩
  rw [World.cell?_alloc_lt _ _ _ (show w.heap.size < w1.heap.size by omega), kept_cells hb j, cell_of_row _ _ j cs t (0, 0) (heap_alloc_new w _)]
theorem WS.val {W0 w : World} {b g k N : Nat} {cs : Array Value} {l : List Str} (h : WS W0 b g k cs l N w) : ∃ A c, w.cell? ⟨g, 0, none⟩ = some (.slice A l.length c) ∧ Texts w b l (.slice A l.length c) := by
  obtain ⟨v, h1, _, h3⟩ := h.wr
  obtain ⟨A, c, rfl, _⟩ := h3.form
  exact ⟨A, c, one_cell h1, h3⟩
theorem WS.fin {w w1 w2 : World} {cs : Array Value} {t g k N : Nat} {X : Obj} {cs2 : Array Value} {l : List Str} (hb : Below (w.alloc (.cells cs t)).heap.size (w.alloc (.cells cs t)) w1) (h : WS (w1.alloc X) w1.heap.size g k cs2 l N w2) : Below w.heap.size w w2 := by
  have hs := hb.size
  simp at hs
  have h1 : Below w.heap.size w w1 := below_two ((Below.refl _ _).alloc (Nat.le_refl _) _) hb
  exact (h1.alloc (by omega) _).trans (h.bel.mono (by omega))
end Go.Proofs.YtcbegdjmopgbbaaGreatDoor
