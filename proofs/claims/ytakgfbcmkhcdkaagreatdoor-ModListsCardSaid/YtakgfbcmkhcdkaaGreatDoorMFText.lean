/- Walks: package filter: Text. Conditions: Laid. Walks: package filter: Text of a valid filter. Conditions: Laid; the join's length. Walks: package filter: Text of whatever filter. Conditions: Laid. -/
import Derived.Test.YtakgfbcmkhcdkaaGreatDoorMFIs
namespace Go.Proofs.YtakgfbcmkhcdkaaGreatDoor
set_option linter.all false
open Go.ChangeShapes Go.WideShapes Go.RowKit
theorem idx_who (k : Nat) (hk : k < 3) : ∀ w, (Instr.index 104 (.agg #[.string ⟨#[]⟩, .string ⟨#[121, 111, 117, 114, 115]⟩, .string ⟨#[116, 104, 101, 105, 114, 115]⟩]) (.int .i64 k)).run Tryz.prog w = .ok (.string (B (wd whoT k))) w := by
  intro w; rcases k with _ | _ | _ | k
  · kernel_rfl
  · kernel_rfl
  · kernel_rfl
  · omega
theorem idx_self (k : Nat) (hk : k < 3) : ∀ w, (Instr.index 104 (.agg #[.string ⟨#[]⟩, .string ⟨#[115, 101, 108, 102]⟩, .string ⟨#[111, 116, 104, 101, 114]⟩]) (.int .i64 k)).run Tryz.prog w = .ok (.string (B (wd selfT k))) w := by
  intro w; rcases k with _ | _ | _ | k
  · kernel_rfl
  · kernel_rfl
  · kernel_rfl
  · omega
theorem idx_tap (k : Nat) (hk : k < 3) : ∀ w, (Instr.index 104 (.agg #[.string ⟨#[]⟩, .string ⟨#[116, 97, 112, 112, 101, 100]⟩, .string ⟨#[117, 110, 116, 97, 112, 112, 101, 100]⟩]) (.int .i64 k)).run Tryz.prog w = .ok (.string (B (wd tapT k))) w := by
  intro w; rcases k with _ | _ | _ | k
  · kernel_rfl
  · kernel_rfl
  · kernel_rfl
  · omega
theorem idx_sign (k : Nat) (hk : k < 4) : ∀ w, (Instr.index 148 (.agg #[.string ⟨#[]⟩, .string ⟨#[62, 61]⟩, .string ⟨#[60, 61]⟩, .string ⟨#[61]⟩]) (.int .i64 k)).run Tryz.prog w = .ok (.string (B (wd signT k))) w := by
  intro w; rcases k with _ | _ | _ | _ | k
  · kernel_rfl
  · kernel_rfl
  · kernel_rfl
  · kernel_rfl
  · omega
theorem boundText_any (name : ByteArray) (nl : Str) (hnl : L name = nl) (k n : Nat) (hk : k < 4) (hn : n ≤ 1000000) (hs : name.size ≤ 100) (w : World) (hl : Laid w) :
    Calls Tryz.prog 82 #[.string name, .agg #[.int .i64 k, .int .i64 n]] w fun e w' => e = .returned (.string (B (boundW nl k n))) ∧ Below w.heap.size w w' := by
  subst hnl
  have i0 := idx_sign k hk
  have hLb : Laid (w.alloc (.cells #[.int .i64 k, .int .i64 n] 23)) := hl.below ((Below.refl _ _).alloc (Nat.le_refl _) _)
  rcases Nat.eq_zero_or_pos k with h0 | h0
  · have e0 : wd signT k = [] := by subst h0; rfl
    have HD : Hid (boundW (L name) k n = []) := if_pos h0
    generalize boundW (L name) k n = R at *
    clear h0
    go_enter Tryz.func82, Tryz.ntmps82
    go_wp2
    go_ret
    exact ⟨ret_str (by rw [HD.out]; rfl), (Below.refl _ _).alloc (Nat.le_refl _) _⟩
  · have e1 : (wd signT k).isEmpty = false := by
      rcases k with _ | _ | _ | _ | k
      · omega
      · rfl
      · rfl
      · rfl
      · omega
    have e2 : ¬ wd signT k = [] := fun e => by rw [e] at e1; cases e1
    have hwl := wd_len (T := signT) (K := 2) (by decide) k
    have hil := Lib.itoa_length_le n (by omega) (by omega)
    have HD : Hid (boundW (L name) k n = L name ++ wd signT k ++ Lib.itoa n) := if_neg (by omega)
    generalize boundW (L name) k n = R at *
    clear h0
    go_enter Tryz.func82, Tryz.ntmps82
    go_wp2_with (go_at_call 40; (with_reducible refine (numText_any _ (by omega) (by omega) _ hLb).mono ?_); rintro e w2 ⟨rfl, hb2⟩)
    go_ret
    exact ⟨ret_str (L_inj (by simp [L_append, HD.out])), below_two ((Below.refl _ _).alloc (Nat.le_refl _) _) hb2⟩
/-- The writer of a call: block g holds the words l, at most N of them; block k holds cs; below block b nothing has turned since W0. -/
structure WS (W0 : World) (b g k : Nat) (cs : Array Value) (l : List Str) (N : Nat) (w : World) : Prop where
  wr : Wr TW w b g l
  le : l.length ≤ N
  bel : Below b W0 w
  lt : k < b
  box : ∀ j, w.cell? ⟨k, j, none⟩ = cs[j]?
theorem WS.below {W0 w w' : World} {b g k N : Nat} {cs : Array Value} {l : List Str} (h : WS W0 b g k cs l N w) (hb : Below w.heap.size w w') : WS W0 b g k cs l N w' :=
  ⟨h.wr.below hb, h.le, h.bel.trans (hb.mono (by have := h.wr.lt; omega)), h.lt, fun j => (hb.cell (p := ⟨k, j, none⟩) (by have := h.wr.lt; have := h.lt; show k < _; omega)).trans (h.box j)⟩
theorem WS.laid {W0 w : World} {b g k N : Nat} {cs : Array Value} {l : List Str} (h : WS W0 b g k cs l N w) (hl : LB b W0) : Laid w := (hl.below h.bel).laid
theorem WS.step {W0 w w' : World} {b g k N N' : Nat} {cs : Array Value} {l l' : List Str} (h : WS W0 b g k cs l N w) (h1 : Wr TW w' b g l') (h2 : l'.length ≤ N') (h3 : Below b w w') : WS W0 b g k cs l' N' w' :=
  ⟨h1, h2, h.bel.trans h3, h.lt, fun j => (h3.cell (p := ⟨k, j, none⟩) h.lt).trans (h.box j)⟩
theorem add_ws (s : ByteArray) {W0 w : World} {b g k N : Nat} {cs : Array Value} {l : List Str} (h : WS W0 b g k cs l N w) (hN : N < 1000) :
    Calls Tryz.prog 77 #[.pointer (some ⟨g, 0, none⟩), .string s] w fun e w' => e = .returned (.tuple #[]) ∧ WS W0 b g k cs (addW l (L s)) (N + 1) w' :=
  (add_any s w b g l h.wr (by have := h.le; omega)).mono fun e w' ⟨he, h1, h2, _⟩ => ⟨he, h.step h1 (by have := addW_len l (L s); have := h.le; omega) h2⟩
theorem maskType_ws (m : Nat) (p : ByteArray) (pl : Str) (hp : L p = pl) (hps : p.size ≤ 1000) (hm : m < 2 ^ 6) {W0 w : World} {b g k N : Nat} {cs : Array Value} {l : List Str} (h : WS W0 b g k cs l N w) (hN : N < 1000) :
    Calls Tryz.prog 79 #[.pointer (some ⟨g, 0, none⟩), .int .i64 m, .string p, .func (.func 80) #[] #[]] w fun e w' => e = .returned (.tuple #[]) ∧ WS W0 b g k cs (addMask l pl typeT m) (N + 31) w' :=
  (maskType_any m p pl hp w b g l h.wr (by have := h.le; omega) hm hps).mono fun e w' ⟨he, h1, h2, _⟩ => ⟨he, h.step h1 (by have := addMask_len l pl typeT m; have := h.le; omega) h2⟩
theorem maskColor_ws (m : Nat) (p : ByteArray) (pl : Str) (hp : L p = pl) (hps : p.size ≤ 1000) (hm : m < 2 ^ 5) {W0 w : World} {b g k N : Nat} {cs : Array Value} {l : List Str} (h : WS W0 b g k cs l N w) (hN : N < 1000) (hl : LB b W0) :
    Calls Tryz.prog 79 #[.pointer (some ⟨g, 0, none⟩), .int .i64 m, .string p, .func (.func 81) #[] #[]] w fun e w' => e = .returned (.tuple #[]) ∧ WS W0 b g k cs (addMask l pl colorT m) (N + 31) w' :=
  (maskColor_any m p pl hp w b g l h.wr (by have := h.le; omega) hm hps (hl.below h.bel)).mono fun e w' ⟨he, h1, h2, _⟩ => ⟨he, h.step h1 (by have := addMask_len l pl colorT m; have := h.le; omega) h2⟩
theorem maskKey_ws (m : Nat) (p : ByteArray) (pl : Str) (hp : L p = pl) (hps : p.size ≤ 1000) (hm : m < 2 ^ 17) {W0 w : World} {b g k N : Nat} {cs : Array Value} {l : List Str} (h : WS W0 b g k cs l N w) (hN : N < 1000) :
    Calls Tryz.prog 79 #[.pointer (some ⟨g, 0, none⟩), .int .i64 m, .string p, .func (.func 76) #[] #[]] w fun e w' => e = .returned (.tuple #[]) ∧ WS W0 b g k cs (addMask l pl kwT m) (N + 31) w' :=
  (maskKey_any m p pl hp w b g l h.wr (by have := h.le; omega) hm hps).mono fun e w' ⟨he, h1, h2, _⟩ => ⟨he, h.step h1 (by have := addMask_len l pl kwT m; have := h.le; omega) h2⟩
theorem WS.start {w w1 : World} {cs : Array Value} {t : Nat} (hb : Below (w.alloc (.cells cs t)).heap.size (w.alloc (.cells cs t)) w1) :
    WS (w1.alloc (.cells #[.slice none 0 0] TW)) w1.heap.size w1.heap.size w.heap.size cs [] 0 (w1.alloc (.cells #[.slice none 0 0] TW)) := by
  have hs := hb.size
  simp at hs
  refine ⟨⟨_, heap_alloc_new w1 _, Nat.le_refl _, Texts.nil _ _⟩, Nat.le_refl _, Below.refl _ _, by omega, fun j => ?_⟩
  rw [World.cell?_alloc_lt _ _ _ (show w.heap.size < w1.heap.size by omega), kept_cells hb j, cell_of_row _ _ j cs t (0, 0) (heap_alloc_new w _)]
theorem WS.val {W0 w : World} {b g k N : Nat} {cs : Array Value} {l : List Str} (h : WS W0 b g k cs l N w) : ∃ A c, w.cell? ⟨g, 0, none⟩ = some (.slice A l.length c) ∧ Texts w b l (.slice A l.length c) := by
  obtain ⟨v, h1, _, h3⟩ := h.wr
  obtain ⟨A, c, rfl, _⟩ := h3.form
  exact ⟨A, c, one_cell h1, h3⟩
theorem WS.fin {w w1 w2 : World} {cs : Array Value} {t g k N : Nat} {X : Obj} {cs2 : Array Value} {l : List Str} (hb : Below (w.alloc (.cells cs t)).heap.size (w.alloc (.cells cs t)) w1) (h : WS (w1.alloc X) w1.heap.size g k cs2 l N w2) : Below w.heap.size w w2 := by
  have hs := hb.size
  simp at hs
  have h1 : Below w.heap.size w w1 := below_two ((Below.refl _ _).alloc (Nat.le_refl _) _) hb
  exact (h1.alloc (by omega) _).trans (h.bel.mono (by omega))
end Go.Proofs.YtakgfbcmkhcdkaaGreatDoor
namespace Go.Proofs.YtakgfbcmkhcdkaaGreatDoor
set_option linter.all false
open Go.ChangeShapes Go.WideShapes Go.RowKit
theorem LB.alloc {b : Nat} {w : World} {o : Obj} (h : LB b w) (hb : b ≤ w.heap.size) : LB b (w.alloc o) := h.below ((Below.refl _ _).alloc hb _)
def mkFN (z wh se ty nt co nc : Nat) (sub : ByteArray) (ke ta pk pn tk tn vk vn : Nat) : FN := ⟨z, wh, se, ty, nt, co, nc, L sub, ke, ta, pk, pn, tk, tn, vk, vn⟩
set_option maxRecDepth 100000 in
set_option maxHeartbeats 4000000 in
theorem fltText_yes (z wh se ty nt co nc : Nat) (sub : ByteArray) (ke ta pk pn tk tn vk vn : Nat) (w : World) (hl : Laid w) (hv : fltIs ⟨z, wh, se, ty, nt, co, nc, sub, ke, ta, pk, pn, tk, tn, vk, vn⟩ = true)
    (hz : z ≤ 5) (hwh : wh < 3) (hse : se < 3) (hty : ty < 2 ^ 6) (hnt : nt < 2 ^ 6) (hco : co < 2 ^ 5) (hnc : nc < 2 ^ 5) (hsub : sub.size ≤ 32) (hke : ke < 2 ^ 17) (hta : ta < 3)
    (hpk : pk < 4) (hpn : pn ≤ 1000000) (htk : tk < 4) (htn : tn ≤ 1000000) (hvk : vk < 4) (hvn : vn ≤ 1000000)
    (hjl : (Lib.join (fltWords (mkFN z wh se ty nt co nc sub ke ta pk pn tk tn vk vn)) [32]).length ≤ 140737488355328) :
    Calls Tryz.prog 39 #[.agg #[.int .i64 z, .int .i64 wh, .int .i64 se, .int .i64 ty, .int .i64 nt, .int .i64 co, .int .i64 nc, .string sub, .int .i64 ke, .int .i64 ta, .int .i64 pk, .int .i64 pn, .int .i64 tk, .int .i64 tn, .int .i64 vk, .int .i64 vn]] w fun e w' => e = .returned (.string (B (fltText (mkFN z wh se ty nt co nc sub ke ta pk pn tk tn vk vn)))) ∧ Below w.heap.size w w' := by
  have HV := Lib.hid hv; clear hv
  have hl1 : Laid (w.alloc (.cells #[.int .i64 z, .int .i64 wh, .int .i64 se, .int .i64 ty, .int .i64 nt, .int .i64 co, .int .i64 nc, .string sub, .int .i64 ke, .int .i64 ta, .int .i64 pk, .int .i64 pn, .int .i64 tk, .int .i64 tn, .int .i64 vk, .int .i64 vn] 25)) := hl.below ((Below.refl _ _).alloc (Nat.le_refl _) _)
  have i1 := idx_who wh hwh
  have i2 := idx_self se hse
  have i3 := idx_tap ta hta
  by_cases hs : L sub = []
  · have s0 : sub.toList = [] := by rw [L_toList]; exact hs
    have eW : fltWords (mkFN z wh se ty nt co nc sub ke ta pk pn tk tn vk vn) = fltWordsB true (mkFN z wh se ty nt co nc sub ke ta pk pn tk tn vk vn) := by
      unfold fltWords; rw [show ((mkFN z wh se ty nt co nc sub ke ta pk pn tk tn vk vn).sub == []) = true by simpa [mkFN] using hs]
    rw [eW] at hjl
    have HT : Hid (fltText (mkFN z wh se ty nt co nc sub ke ta pk pn tk tn vk vn) = if fltWordsB true (mkFN z wh se ty nt co nc sub ke ta pk pn tk tn vk vn) = [] then anyW else Lib.join (fltWordsB true (mkFN z wh se ty nt co nc sub ke ta pk pn tk tn vk vn)) [32]) := by rw [fltText, eW]; rfl
    generalize fltText (mkFN z wh se ty nt co nc sub ke ta pk pn tk tn vk vn) = R at *
    clear eW
    clear hs
    go_enter Tryz.func39, Tryz.ntmps39
    go_wp2_with (first | (go_at_call 31; refine (fltIs_any _ _ _ _ _ _ _ _ _ _ _ _ _ _ _ _ _ hl1 true HV).mono ?_; rintro e w1 ⟨rfl, hb1⟩; have hW := WS.start hb1; have hC := hW.box; have hcv : True := trivial; have hTX : True := trivial; have hLB := LB.start ((hl1.below hb1)) (Nat.le_refl w1.heap.size)) | (go_at_call 78; (with_reducible refine (zoneWord_any _ hz _).mono ?_); rintro e w2 ⟨rfl, rfl⟩) | (go_at_call 77; (with_reducible refine (add_ws _ hW (by omega)).mono ?_); clear hW hC hcv hTX; rintro e w2 ⟨rfl, hW⟩; have hC := hW.box; obtain ⟨A2, c2, hcv, hTX⟩ := hW.val) | (go_at_call 79; (with_reducible refine (maskType_ws _ _ [] rfl (by decide) hty hW (by omega)).mono ?_); clear hW hC hcv hTX; rintro e w2 ⟨rfl, hW⟩; have hC := hW.box; obtain ⟨A2, c2, hcv, hTX⟩ := hW.val) | (go_at_call 79; (with_reducible refine (maskType_ws _ _ nonW rfl (by decide) hnt hW (by omega)).mono ?_); clear hW hC hcv hTX; rintro e w2 ⟨rfl, hW⟩; have hC := hW.box; obtain ⟨A2, c2, hcv, hTX⟩ := hW.val) | (go_at_call 79; (with_reducible refine (maskColor_ws _ _ [] rfl (by decide) hco hW (by omega) (LB.alloc hLB (Nat.le_refl _))).mono ?_); clear hW hC hcv hTX; rintro e w2 ⟨rfl, hW⟩; have hC := hW.box; obtain ⟨A2, c2, hcv, hTX⟩ := hW.val) | (go_at_call 79; (with_reducible refine (maskColor_ws _ _ nonW rfl (by decide) hnc hW (by omega) (LB.alloc hLB (Nat.le_refl _))).mono ?_); clear hW hC hcv hTX; rintro e w2 ⟨rfl, hW⟩; have hC := hW.box; obtain ⟨A2, c2, hcv, hTX⟩ := hW.val) | (go_at_call 79; (with_reducible refine (maskKey_ws _ _ withW rfl (by decide) hke hW (by omega)).mono ?_); clear hW hC hcv hTX; rintro e w2 ⟨rfl, hW⟩; have hC := hW.box; obtain ⟨A2, c2, hcv, hTX⟩ := hW.val) | (go_at_call 82; (with_reducible refine (boundText_any _ powerW rfl _ _ hpk hpn (by decide) _ (hW.laid (LB.alloc hLB (Nat.le_refl _)))).mono ?_); rintro e w2 ⟨rfl, hb2⟩; replace hW := hW.below hb2; clear hC hb2 hcv hTX; have hC := hW.box; have hcv : True := trivial; have hTX : True := trivial) | (go_at_call 82; (with_reducible refine (boundText_any _ toughW rfl _ _ htk htn (by decide) _ (hW.laid (LB.alloc hLB (Nat.le_refl _)))).mono ?_); rintro e w2 ⟨rfl, hb2⟩; replace hW := hW.below hb2; clear hC hb2 hcv hTX; have hC := hW.box; have hcv : True := trivial; have hTX : True := trivial) | (go_at_call 82; (with_reducible refine (boundText_any _ valueW rfl _ _ hvk hvn (by decide) _ (hW.laid (LB.alloc hLB (Nat.le_refl _)))).mono ?_); rintro e w2 ⟨rfl, hb2⟩; replace hW := hW.below hb2; clear hC hb2 hcv hTX; have hC := hW.box; have hcv : True := trivial; have hTX : True := trivial) | (go_at_call 71; refine (join_any _ _ _ _ _ _ hTX (by have := hW.le; omega) [32] rfl hjl).mono ?_; rintro e w3 ⟨rfl, hb3⟩))
    · have h0 : (((fltWordsB true (mkFN z wh se ty nt co nc sub ke ta pk pn tk tn vk vn)).length : Int) == 0) = true := by assumption
      go_ret
      exact ⟨ret_str (by rw [HT.out, if_pos (by simpa using h0)]; rfl), WS.fin hb1 hW⟩
    · have h0 : (((fltWordsB true (mkFN z wh se ty nt co nc sub ke ta pk pn tk tn vk vn)).length : Int) == 0) = false := by assumption
      go_ret
      exact ⟨ret_str (by rw [HT.out, if_neg (by simpa using h0)]; rfl), (WS.fin hb1 hW).trans (hb3.mono (by have := (WS.fin hb1 hW).size; omega))⟩
  · have s1 : sub.toList.isEmpty = false := by rw [L_toList]; simpa using hs
    have s2 : ¬ sub.toList = [] := by rw [L_toList]; exact hs
    have eW : fltWords (mkFN z wh se ty nt co nc sub ke ta pk pn tk tn vk vn) = fltWordsB false (mkFN z wh se ty nt co nc sub ke ta pk pn tk tn vk vn) := by
      unfold fltWords; rw [show ((mkFN z wh se ty nt co nc sub ke ta pk pn tk tn vk vn).sub == []) = false by simpa [mkFN] using hs]
    rw [eW] at hjl
    have HT : Hid (fltText (mkFN z wh se ty nt co nc sub ke ta pk pn tk tn vk vn) = if fltWordsB false (mkFN z wh se ty nt co nc sub ke ta pk pn tk tn vk vn) = [] then anyW else Lib.join (fltWordsB false (mkFN z wh se ty nt co nc sub ke ta pk pn tk tn vk vn)) [32]) := by rw [fltText, eW]; rfl
    generalize fltText (mkFN z wh se ty nt co nc sub ke ta pk pn tk tn vk vn) = R at *
    clear eW
    clear hs
    go_enter Tryz.func39, Tryz.ntmps39
    go_wp2_with (first | (go_at_call 31; refine (fltIs_any _ _ _ _ _ _ _ _ _ _ _ _ _ _ _ _ _ hl1 true HV).mono ?_; rintro e w1 ⟨rfl, hb1⟩; have hW := WS.start hb1; have hC := hW.box; have hcv : True := trivial; have hTX : True := trivial; have hLB := LB.start ((hl1.below hb1)) (Nat.le_refl w1.heap.size)) | (go_at_call 78; (with_reducible refine (zoneWord_any _ hz _).mono ?_); rintro e w2 ⟨rfl, rfl⟩) | (go_at_call 77; (with_reducible refine (add_ws _ hW (by omega)).mono ?_); clear hW hC hcv hTX; rintro e w2 ⟨rfl, hW⟩; have hC := hW.box; obtain ⟨A2, c2, hcv, hTX⟩ := hW.val) | (go_at_call 79; (with_reducible refine (maskType_ws _ _ [] rfl (by decide) hty hW (by omega)).mono ?_); clear hW hC hcv hTX; rintro e w2 ⟨rfl, hW⟩; have hC := hW.box; obtain ⟨A2, c2, hcv, hTX⟩ := hW.val) | (go_at_call 79; (with_reducible refine (maskType_ws _ _ nonW rfl (by decide) hnt hW (by omega)).mono ?_); clear hW hC hcv hTX; rintro e w2 ⟨rfl, hW⟩; have hC := hW.box; obtain ⟨A2, c2, hcv, hTX⟩ := hW.val) | (go_at_call 79; (with_reducible refine (maskColor_ws _ _ [] rfl (by decide) hco hW (by omega) (LB.alloc hLB (Nat.le_refl _))).mono ?_); clear hW hC hcv hTX; rintro e w2 ⟨rfl, hW⟩; have hC := hW.box; obtain ⟨A2, c2, hcv, hTX⟩ := hW.val) | (go_at_call 79; (with_reducible refine (maskColor_ws _ _ nonW rfl (by decide) hnc hW (by omega) (LB.alloc hLB (Nat.le_refl _))).mono ?_); clear hW hC hcv hTX; rintro e w2 ⟨rfl, hW⟩; have hC := hW.box; obtain ⟨A2, c2, hcv, hTX⟩ := hW.val) | (go_at_call 79; (with_reducible refine (maskKey_ws _ _ withW rfl (by decide) hke hW (by omega)).mono ?_); clear hW hC hcv hTX; rintro e w2 ⟨rfl, hW⟩; have hC := hW.box; obtain ⟨A2, c2, hcv, hTX⟩ := hW.val) | (go_at_call 82; (with_reducible refine (boundText_any _ powerW rfl _ _ hpk hpn (by decide) _ (hW.laid (LB.alloc hLB (Nat.le_refl _)))).mono ?_); rintro e w2 ⟨rfl, hb2⟩; replace hW := hW.below hb2; clear hC hb2 hcv hTX; have hC := hW.box; have hcv : True := trivial; have hTX : True := trivial) | (go_at_call 82; (with_reducible refine (boundText_any _ toughW rfl _ _ htk htn (by decide) _ (hW.laid (LB.alloc hLB (Nat.le_refl _)))).mono ?_); rintro e w2 ⟨rfl, hb2⟩; replace hW := hW.below hb2; clear hC hb2 hcv hTX; have hC := hW.box; have hcv : True := trivial; have hTX : True := trivial) | (go_at_call 82; (with_reducible refine (boundText_any _ valueW rfl _ _ hvk hvn (by decide) _ (hW.laid (LB.alloc hLB (Nat.le_refl _)))).mono ?_); rintro e w2 ⟨rfl, hb2⟩; replace hW := hW.below hb2; clear hC hb2 hcv hTX; have hC := hW.box; have hcv : True := trivial; have hTX : True := trivial) | (go_at_call 71; refine (join_any _ _ _ _ _ _ hTX (by have := hW.le; omega) [32] rfl hjl).mono ?_; rintro e w3 ⟨rfl, hb3⟩))
    · have h0 : (((fltWordsB false (mkFN z wh se ty nt co nc sub ke ta pk pn tk tn vk vn)).length : Int) == 0) = true := by assumption
      go_ret
      exact ⟨ret_str (by rw [HT.out, if_pos (by simpa using h0)]; rfl), WS.fin hb1 hW⟩
    · have h0 : (((fltWordsB false (mkFN z wh se ty nt co nc sub ke ta pk pn tk tn vk vn)).length : Int) == 0) = false := by assumption
      go_ret
      exact ⟨ret_str (by rw [HT.out, if_neg (by simpa using h0)]; rfl), (WS.fin hb1 hW).trans (hb3.mono (by have := (WS.fin hb1 hW).size; omega))⟩
end Go.Proofs.YtakgfbcmkhcdkaaGreatDoor
namespace Go.Proofs.YtakgfbcmkhcdkaaGreatDoor
set_option linter.all false
open Go.ChangeShapes Go.WideShapes Go.RowKit
set_option maxRecDepth 100000 in
theorem fltText_no (zone who self types ntypes colors ncolors : Int) (sub : ByteArray) (keys tap pk pn tk tn vk vn : Int) (w : World) (hl : Laid w) (hv : fltIs ⟨zone, who, self, types, ntypes, colors, ncolors, sub, keys, tap, pk, pn, tk, tn, vk, vn⟩ = false) :
    Calls Tryz.prog 39 #[.agg #[.int .i64 zone, .int .i64 who, .int .i64 self, .int .i64 types, .int .i64 ntypes, .int .i64 colors, .int .i64 ncolors, .string sub, .int .i64 keys, .int .i64 tap, .int .i64 pk, .int .i64 pn, .int .i64 tk, .int .i64 tn, .int .i64 vk, .int .i64 vn]] w fun e w' => e = .returned (.string ⟨#[]⟩) ∧ Below w.heap.size w w' := by
  have HV := Lib.hid hv; clear hv
  have hl1 : Laid (w.alloc (.cells #[.int .i64 zone, .int .i64 who, .int .i64 self, .int .i64 types, .int .i64 ntypes, .int .i64 colors, .int .i64 ncolors, .string sub, .int .i64 keys, .int .i64 tap, .int .i64 pk, .int .i64 pn, .int .i64 tk, .int .i64 tn, .int .i64 vk, .int .i64 vn] 25)) := hl.below ((Below.refl _ _).alloc (Nat.le_refl _) _)
  go_enter Tryz.func39, Tryz.ntmps39
  go_wp2_with (go_at_call 31; refine (fltIs_any _ _ _ _ _ _ _ _ _ _ _ _ _ _ _ _ _ hl1 false HV).mono ?_; rintro e w1 ⟨rfl, hb1⟩)
  go_ret
  exact ⟨rfl, below_two ((Below.refl _ _).alloc (Nat.le_refl _) _) hb1⟩
/-- A filter's fields as numbers from 0 on. -/
def toFN (f : Flt) : FN := ⟨f.zone.toNat, f.who.toNat, f.self.toNat, f.types.toNat, f.ntypes.toNat, f.colors.toNat, f.ncolors.toNat, L f.sub, f.keys.toNat, f.tap.toNat, f.pk.toNat, f.pn.toNat, f.tk.toNat, f.tn.toNat, f.vk.toNat, f.vn.toNat⟩
/-- A filter's text; empty if it is not valid. -/
def textOf (f : Flt) : Str := if fltIs f = true then fltText (toFN f) else []
theorem btw_nat {n m : Int} (h : btw n m = true) : ∃ k : Nat, n = (k : Int) ∧ (k : Int) ≤ m := by
  simp only [btw, Bool.and_eq_true, decide_eq_true_eq] at h
  exact ⟨n.toNat, by omega, by omega⟩
theorem bnd_nat {k n : Int} (h : bnd k n = true) : ∃ a b : Nat, k = (a : Int) ∧ n = (b : Int) ∧ a < 4 ∧ b ≤ 1000000 := by
  simp only [bnd, Bool.and_eq_true] at h
  obtain ⟨a, ha, ha2⟩ := btw_nat h.1
  obtain ⟨b, hb, hb2⟩ := btw_nat h.2.1
  exact ⟨a, b, ha, hb, by omega, by omega⟩
theorem isName_len {l : Str} (h : isName l = true) : l.length ≤ 32 := by
  simp only [isName, nmHead, Bool.and_eq_true, decide_eq_true_eq] at h; omega
theorem isSub_len {l : Str} (h : isSub l = true) : l.length ≤ 32 := by
  simp only [isSub, Bool.and_eq_true] at h; exact isName_len h.1
theorem boundW_len (name : Str) (hn : name.length ≤ 10) (k n : Nat) (hnn : n ≤ 1000000) : (boundW name k n).length ≤ 40 := by
  unfold boundW; split
  · simp
  · have h1 := wd_len (T := signT) (K := 2) (by decide) k
    have h2 := Lib.itoa_length_le n (by omega) (by omega)
    simp only [List.length_append]; omega
theorem addW_mem {l : List Str} {s : Str} {K : Nat} (hl : ∀ x ∈ l, x.length ≤ K) (hs : s.length ≤ K) : ∀ x ∈ addW l s, x.length ≤ K := by
  intro x hx; unfold addW at hx; split at hx
  · exact hl x hx
  · simp at hx; rcases hx with h | h
    · exact hl x h
    · subst h; exact hs
theorem addMask_mem {l : List Str} {p : Str} {T : List Str} {m K : Nat} (hl : ∀ x ∈ l, x.length ≤ K) (hp : ∀ i, (p ++ wd T i).length ≤ K) : ∀ x ∈ addMask l p T m, x.length ≤ K := by
  unfold addMask
  generalize bitsUpto m 31 = bl
  induction bl generalizing l with
  | nil => exact hl
  | cons i r ih => simp only [List.map_cons, List.foldl_cons]; exact ih (addW_mem hl (hp i))
theorem fltWordsB_mem (b : Bool) (f : FN) (hs : f.sub.length ≤ 32) (h1 : f.pn ≤ 1000000) (h2 : f.tn ≤ 1000000) (h3 : f.vn ≤ 1000000) : ∀ x ∈ fltWordsB b f, x.length ≤ 40 := by
  have wl : ∀ (T : List Str) (_ : ∀ x ∈ T, x.length ≤ 14) i, (wd T i).length ≤ 40 := fun T h i => by have := wd_len h i; omega
  have pl : ∀ (p : Str) (_ : p.length ≤ 5) (T : List Str) (_ : ∀ x ∈ T, x.length ≤ 14) i, (p ++ wd T i).length ≤ 40 := fun p hp T h i => by have := wd_len h i; rw [List.length_append]; omega
  have base : ∀ x ∈ addMask (addMask (addMask (addMask (addW (addW (addW [] (wd zoneT f.zone)) (wd whoT f.who)) (wd selfT f.self)) [] typeT f.types) nonW typeT f.ntypes) [] colorT f.colors) nonW colorT f.ncolors, x.length ≤ 40 :=
    addMask_mem (addMask_mem (addMask_mem (addMask_mem (addW_mem (addW_mem (addW_mem (by simp) (wl _ (by decide) _)) (wl _ (by decide) _)) (wl _ (by decide) _)) (pl _ (by decide) _ (by decide))) (pl _ (by decide) _ (by decide))) (pl _ (by decide) _ (by decide))) (pl _ (by decide) _ (by decide))
  unfold fltWordsB
  refine addW_mem (addW_mem (addW_mem (addW_mem (addMask_mem ?_ (pl _ (by decide) _ (by decide))) (wl _ (by decide) _)) (boundW_len _ (by decide) _ _ h1)) (boundW_len _ (by decide) _ _ h2)) (boundW_len _ (by decide) _ _ h3)
  cases b
  · exact addW_mem base (by rw [List.length_append]; show 4 + _ ≤ _; omega)
  · exact base
theorem fltWordsB_len (b : Bool) (f : FN) : (fltWordsB b f).length ≤ 200 := by
  have a1 := addMask_len (addW (addW (addW [] (wd zoneT f.zone)) (wd whoT f.who)) (wd selfT f.self)) [] typeT f.types
  have h0 := addW_len [] (wd zoneT f.zone)
  have h1 := addW_len (addW [] (wd zoneT f.zone)) (wd whoT f.who)
  have h2 := addW_len (addW (addW [] (wd zoneT f.zone)) (wd whoT f.who)) (wd selfT f.self)
  have a2 := addMask_len (addMask (addW (addW (addW [] (wd zoneT f.zone)) (wd whoT f.who)) (wd selfT f.self)) [] typeT f.types) nonW typeT f.ntypes
  have a3 := addMask_len (addMask (addMask (addW (addW (addW [] (wd zoneT f.zone)) (wd whoT f.who)) (wd selfT f.self)) [] typeT f.types) nonW typeT f.ntypes) [] colorT f.colors
  have a4 := addMask_len (addMask (addMask (addMask (addW (addW (addW [] (wd zoneT f.zone)) (wd whoT f.who)) (wd selfT f.self)) [] typeT f.types) nonW typeT f.ntypes) [] colorT f.colors) nonW colorT f.ncolors
  have last : ∀ l : List Str, l.length ≤ 150 → (addW (addW (addW (addW (addMask l withW kwT f.keys) (wd tapT f.tap)) (boundW powerW f.pk f.pn)) (boundW toughW f.tk f.tn)) (boundW valueW f.vk f.vn)).length ≤ 200 := by
    intro l hl
    have b1 := addMask_len l withW kwT f.keys
    have b2 := addW_len (addMask l withW kwT f.keys) (wd tapT f.tap)
    have b3 := addW_len (addW (addMask l withW kwT f.keys) (wd tapT f.tap)) (boundW powerW f.pk f.pn)
    have b4 := addW_len (addW (addW (addMask l withW kwT f.keys) (wd tapT f.tap)) (boundW powerW f.pk f.pn)) (boundW toughW f.tk f.tn)
    have b5 := addW_len (addW (addW (addW (addMask l withW kwT f.keys) (wd tapT f.tap)) (boundW powerW f.pk f.pn)) (boundW toughW f.tk f.tn)) (boundW valueW f.vk f.vn)
    omega
  simp only [List.length_nil] at h0
  unfold fltWordsB
  cases b
  · refine last _ ?_
    have b0 := addW_len (addMask (addMask (addMask (addMask (addW (addW (addW [] (wd zoneT f.zone)) (wd whoT f.who)) (wd selfT f.self)) [] typeT f.types) nonW typeT f.ntypes) [] colorT f.colors) nonW colorT f.ncolors) (subW ++ f.sub)
    simp only [cond_false]; omega
  · refine last _ ?_
    simp only [cond_true]; omega
theorem fltJoin_len (f : FN) (hs : f.sub.length ≤ 32) (h1 : f.pn ≤ 1000000) (h2 : f.tn ≤ 1000000) (h3 : f.vn ≤ 1000000) : (Lib.join (fltWords f) [32]).length ≤ 8200 := by
  have hm := fltWordsB_mem (f.sub == []) f hs h1 h2 h3
  have hn := fltWordsB_len (f.sub == []) f
  have h := join_le [32] 40 (fltWords f) hm
  have : (fltWords f).length * (40 + 1) ≤ 200 * (40 + 1) := Nat.mul_le_mul_right _ hn
  simp only [List.length_cons, List.length_nil] at h; omega
/-- Text returns a filter as words, and the empty text for others. -/
theorem fltText_any (zone who self types ntypes colors ncolors : Int) (sub : ByteArray) (keys tap pk pn tk tn vk vn : Int) (w : World) (hl : Laid w) :
    Calls Tryz.prog 39 #[.agg #[.int .i64 zone, .int .i64 who, .int .i64 self, .int .i64 types, .int .i64 ntypes, .int .i64 colors, .int .i64 ncolors, .string sub, .int .i64 keys, .int .i64 tap, .int .i64 pk, .int .i64 pn, .int .i64 tk, .int .i64 tn, .int .i64 vk, .int .i64 vn]] w fun e w' => e = .returned (.string (B (textOf ⟨zone, who, self, types, ntypes, colors, ncolors, sub, keys, tap, pk, pn, tk, tn, vk, vn⟩))) ∧ Below w.heap.size w w' := by
  cases hv : fltIs ⟨zone, who, self, types, ntypes, colors, ncolors, sub, keys, tap, pk, pn, tk, tn, vk, vn⟩ with
  | false =>
    refine (fltText_no zone who self types ntypes colors ncolors sub keys tap pk pn tk tn vk vn w hl hv).mono fun e w' ⟨he, hb⟩ => ⟨?_, hb⟩
    rw [he, textOf, hv]; rfl
  | true =>
    have hv2 := hv
    simp only [fltIs, okMasks, Bool.and_eq_true, Bool.or_eq_true, beq_iff_eq] at hv2
    obtain ⟨⟨g1, g2, g3, g4, g5⟩, ⟨g6, g7, g8⟩, ⟨g9, g10, g11⟩, g12, g13, g14, g15⟩ := hv2
    obtain ⟨z, rfl, hz⟩ := btw_nat g1
    obtain ⟨wh, rfl, hwh⟩ := btw_nat g2
    obtain ⟨se, rfl, hse⟩ := btw_nat g3
    obtain ⟨ta, rfl, hta⟩ := btw_nat g4
    obtain ⟨ke, rfl, hke⟩ := btw_nat g5
    obtain ⟨ty, rfl, hty⟩ := btw_nat g6
    obtain ⟨nt, rfl, hnt⟩ := btw_nat g7
    obtain ⟨co, rfl, hco⟩ := btw_nat g9
    obtain ⟨nc, rfl, hnc⟩ := btw_nat g10
    obtain ⟨pk, pn, rfl, rfl, hpk, hpn⟩ := bnd_nat g13
    obtain ⟨tk, tn, rfl, rfl, htk, htn⟩ := bnd_nat g14
    obtain ⟨vk, vn, rfl, rfl, hvk, hvn⟩ := bnd_nat g15
    have hsub : sub.size ≤ 32 := by
      rw [← size_l]
      rcases g12 with h | h
      · rw [h]; simp
      · exact isSub_len h
    have hj := fltJoin_len (mkFN z wh se ty nt co nc sub ke ta pk pn tk tn vk vn) (by show (L sub).length ≤ 32; rw [size_l]; exact hsub) hpn htn hvn
    refine (fltText_yes z wh se ty nt co nc sub ke ta pk pn tk tn vk vn w hl hv (by omega) (by omega) (by omega) (by omega) (by omega) (by omega) (by omega) hsub (by omega) (by omega) hpk hpn htk htn hvk hvn (by omega)).mono fun e w' ⟨he, hb⟩ => ⟨?_, hb⟩
    rw [he, textOf, hv]; rfl
end Go.Proofs.YtakgfbcmkhcdkaaGreatDoor
