/- A range over an iterator that keeps its state in one captured block: the statement's law, for a body that goes on or returns. Conditions: none. Walks: strings.SplitSeq at the separator ", ": its iterator gives the parts of the text in their order. Conditions: Laid; the text is shorter than four thousand million bytes. Walks: package mod: ParseList. Conditions: Laid; the text is shorter than a hundred million bytes. -/
import Derived.RangeFuncNested
import Derived.RangeFuncBound
import Derived.RangeFuncCalls
import Derived.RangeFuncLeaves
import Derived.Shelf.Abstract
import Derived.Shelf.RegionOpen
import Derived.WalkKit
import Derived.OwnWalkIn
import Derived.TacticsInMore
import Derived.LoopNIn
import Derived.LoopIn
import Derived.Maps.AppendAt
import Derived.Test.YtakgfbcmkhcdkaaGreatDoorMSt
import Derived.Test.YtakgfbcmkhcdkaaGreatDoorMOPlain
import Derived.Test.YtakgfbcmkhcdkaaGreatDoorOne
import Derived.Test.YtakgfbcmkhcdkaaGreatDoorKeys
import Derived.Test.YtakgfbcmkhcdkaaGreatDoorMOParse
import Derived.Test.YtakgfbcmkhcdkaaGreatDoorMOMem
namespace Go.Proofs.YtakgfbcmkhcdkaaGreatDoor
set_option linter.all false
open Go.ChangeShapes Go.WideShapes Go.RowKit Go.Shelf
/-- The blocks below n0 and those from lo up to hi lie as they lay. -/
def Spans (n0 lo hi : Nat) (A C : World) : Prop := Below n0 A C ∧ ∀ k, lo ≤ k → k < hi → C.heap[k]? = A.heap[k]?
theorem Spans.refl (n0 lo hi : Nat) (A : World) : Spans n0 lo hi A A := ⟨Below.refl _ _, fun _ _ _ => rfl⟩
theorem Spans.trans {n0 lo hi : Nat} {A C D : World} (h : Spans n0 lo hi A C) (k : Spans n0 lo hi C D) : Spans n0 lo hi A D := ⟨h.1.trans k.1, fun i h1 h2 => (k.2 i h1 h2).trans (h.2 i h1 h2)⟩
theorem Spans.put {n0 lo hi : Nat} (A : World) {l : Nat} (o : Obj) (h : hi ≤ l) (h0 : n0 ≤ l) (hz : n0 ≤ A.heap.size) : Spans n0 lo hi A (A.putObj l o) :=
  ⟨(Below.refl n0 A).grown (grownBy_putObj' A l o) hz (fun k e => by cases e; exact h0), fun k _ h2 => World.putObj_heap_other (by omega)⟩
theorem Spans.below {n0 lo hi : Nat} {A C : World} (h : Below A.heap.size A C) (h0 : n0 ≤ A.heap.size) (hh : hi ≤ A.heap.size) : Spans n0 lo hi A C := ⟨h.mono h0, fun k _ h2 => h.block k (by omega)⟩
/-- What an invariant bears: new blocks, a turn of block c, a turn of a block from B on that holds no cells. -/
def Bears {β : Type} (c B : Nat) (J : β → World → Prop) : Prop := ∀ s A C row, J s A → A.grownBy C row → (∀ r, row = some r → r = c ∨ (B ≤ r ∧ ∃ o : Obj, A.heap[r]? = some o ∧ o.isCells = false)) → J s C
theorem Bears.put {β : Type} {c B : Nat} {J : β → World → Prop} (h : Bears c B J) {s : β} {A : World} {l : Nat} {o : Obj} (o' : Obj) (hs : J s A) (hB : B ≤ l) (hl : A.heap[l]? = some o) (ho : o.isCells = false) : J s (A.putObj l o') :=
  h s A _ (some l) hs (grownBy_putObj' A l o') (fun r e => by cases e; exact .inr ⟨hB, o, hl, ho⟩)
theorem Bears.new {β : Type} {c B : Nat} {J : β → World → Prop} (h : Bears c B J) {s : β} {A : World} (o : Obj) (hs : J s A) : J s (A.alloc o) :=
  h s A _ none hs (World.grownBy_alloc A o none) (fun r e => by cases e)
variable {P : Program} {n : Nat}
/-- An iterator over given texts, which turns block c alone; the rounds leave its blocks as they are. -/
def SeqOver (P : Program) (n g : Nat) (lb : Array Value) (c n0 lo hi : Nat) (parts : List Str) (w : World) : Prop :=
  ∀ (l : Nat) (J Jx : List Str → World → Prop) (W : World), Spans n0 lo hi w W → (∀ s A C row, J s A → A.grownBy C row → (∀ r, row = some r → r = c) → J s C) → (∀ s A C row, Jx s A → A.grownBy C row → (∀ r, row = some r → r = c) → Jx s C) →
    (∀ pre x rest W1, parts = pre ++ x :: rest → J pre W1 → YieldAt Fence.wide (n - 1) P l #[.string (B x)] W1 fun e W' =>
      (e = .returned (.bool true) ∧ J (pre ++ [x]) W' ∧ Spans n0 lo hi W1 W') ∨ (e = .returned (.bool false) ∧ Jx (pre ++ [x]) W')) →
    J [] W →
    CallsIn Fence.wide n P g (#[.func (.yield l) #[] #[]] ++ lb) W fun e W' => (∃ v, e = .returned v) ∧ (J parts W' ∨ ∃ pre, Jx pre W')
/-- How the body of a round may be left. -/
def overPost (n0 lo hi : Nat) (I Ix : List Str → World → Prop) (xs : List Str) (W : World) : Exit → Act → World → Prop
  | .normal, _, W' => KeepsOthers W W' ∧ Spans n0 lo hi W W' ∧ I xs W'
  | .ret, _, W' => KeepsOthers W W' ∧ Ix xs W'
  | .exit _, _, _ => False
  | .goto _, _, _ => False
  | .panic _, _, _ => False
  | .outgrown, _, _ => False
theorem wpIn_over {g : Operand} {ps : Array Tmp} {assign body : Code} {Q : Exit → Act → World → Prop} {a : Act} {w : World}
    {gf : Nat} {lb : Array Value} (hg : a.eval g = .func (.func gf) #[] lb) (eg : ∀ args w, (callFunc gf args).run P w = .ok (.enter gf args) w)
    {c n0 lo hi : Nat} {parts : List Str} (hseq : SeqOver P (n - 1) gf lb c n0 lo hi parts w) (hc : c < w.heap.size) (hn0 : n0 ≤ w.heap.size) (hhi : hi ≤ w.heap.size) (hps : ps.size = 1)
    (I Ix : List Str → World → Prop) (hI : Bears c w.heap.size I) (hIx : Bears c w.heap.size Ix) (h0 : I [] w) (a₁ : Str → Act)
    (hassign : ∀ (l : Nat) (x : Str) (W : World) (K : Act → World → Prop), K (a₁ x) W →
      assign.wpIn (Fence.wide.inRound l) (n - 1 - 1) P (Exit.then K (fun _ _ _ => False)) { tmps := (ps.zip #[.string (B x)]).foldl (fun t (p, v) => t.setIfInBounds p v) a.tmps, defers := [] } W)
    (hbody : ∀ (l : Nat) (pre : List Str) (x : Str) (rest : List Str) (W : World), parts = pre ++ x :: rest → w.heap.size ≤ W.heap.size → I pre W → body.wpIn (Fence.wide.inRound l) (n - 1 - 1) P (overPost n0 lo hi I Ix (pre ++ [x]) W) (a₁ x) W)
    (hdone : ∀ (D : Nat) (W : World), w.heap.size ≤ D → I parts W → W.heap[D]? = some (.deferred (some [])) → Q .normal { a with defers := { target := .collected D, args := #[] } :: a.defers } W)
    (hstop : ∀ (D : Nat) (pre : List Str) (W : World), w.heap.size ≤ D → Ix pre W → W.heap[D]? = some (.deferred (some [])) → Code.ret.wpIn Fence.wide n P Q { a with defers := { target := .collected D, args := #[] } :: a.defers } W) :
    (Code.rangeFunc g ps assign body).wpIn Fence.wide n P Q a w := by
  refine wpIn_rangeFunc ?_
  intro fn hfn
  obtain ⟨mk, hmk⟩ : ∃ mk : LoopState → Option Code → Loop, mk = fun st pe => { state := st, pending := pe, fn, tmps := a.tmps, params := ps, assign, body, defers := w.heap.size } := ⟨_, rfl⟩
  obtain ⟨W1, hW1⟩ : ∃ W1, (w.alloc (.deferred (some []))).alloc (.loop (mk .ready none)) = W1 := ⟨_, rfl⟩
  have hL1 : W1.heap[w.heap.size + 1]? = some (.loop (mk .ready none)) := by
    rw [← hW1]; have := World.alloc_heap_new (w.alloc (.deferred (some []))) (.loop (mk .ready none)); rwa [World.size_alloc] at this
  have hD1 : W1.heap[w.heap.size]? = some (.deferred (some [])) := by
    rw [← hW1]; exact (Below.heap_alloc _ _ _ (by simp)).trans (World.alloc_heap_new w _)
  have hI1 : I [] W1 := by rw [← hW1]; exact hI.new _ (hI.new _ h0)
  have hs1 : Spans n0 lo hi w W1 := by
    rw [← hW1]
    exact Spans.below (((Below.refl _ w).alloc (Nat.le_refl _) _).alloc (by simp) _) hn0 hhi
  have keep : ∀ {A C : World} {row : Option Nat} {k : Nat} {o : Obj}, A.grownBy C row → (∀ r, row = some r → r = c) → w.heap.size ≤ k → A.heap[k]? = some o → C.heap[k]? = some o := fun hg' hr hk ho =>
    (hg'.block _ (Array.getElem?_eq_some_iff.1 ho).1 (fun e => by have := hr _ e.symm; omega)).trans ho
  refine ⟨w.heap.size + 1, [{ target := .collected w.heap.size, args := #[] }], W1, { target := .fn (.func gf) lb, args := #[.func (.yield (w.heap.size + 1)) #[] #[]] }, W1, gf,
    #[.func (.yield (w.heap.size + 1)) #[] #[]] ++ lb, W1, ?_, ?_, fun f' _ => trivial, ?_, (fun h => by cases h), ?_⟩
  · rw [← hW1, hmk]; exact run_enterLoop_outer _ _ _ _ _
  · simp only [resolve, hg]
    simp [go_sem]
  · simp [invoke, go_sem, eg]
  · refine (hseq (w.heap.size + 1)
      (fun pre W => I pre W ∧ W.heap[w.heap.size + 1]? = some (.loop (mk .ready none)) ∧ W.heap[w.heap.size]? = some (.deferred (some [])) ∧ w.heap.size ≤ W.heap.size)
      (fun pre W => Ix pre W ∧ W.heap[w.heap.size + 1]? = some (.loop (mk .done (some .ret))) ∧ W.heap[w.heap.size]? = some (.deferred (some [])))
      W1 hs1
      (fun s A C row hs hg' hr => ⟨hI s A C row hs.1 hg' (fun r e => .inl (hr r e)), keep hg' hr (by omega) hs.2.1, keep hg' hr (Nat.le_refl _) hs.2.2.1, Nat.le_trans hs.2.2.2 hg'.size⟩)
      (fun s A C row hs hg' hr => ⟨hIx s A C row hs.1 hg' (fun r e => .inl (hr r e)), keep hg' hr (by omega) hs.2.1, keep hg' hr (Nat.le_refl _) hs.2.2⟩)
      ?_ ⟨hI1, hL1, hD1, by rw [← hW1]; simp; omega⟩).mono ?_
    · rintro pre x rest W hx ⟨hi', hl, hk, hsz⟩
      have hlt : w.heap.size + 1 < W.heap.size := (Array.getElem?_eq_some_iff.1 hl).1
      have hy := run_yield (P := P) (args := #[.string (B x)]) hl (by rw [hmk]; exact hps.symm)
      rw [hmk] at hy
      refine ⟨fn, _, assign, body, hy, roundIn_of_wpIn hfn (hassign _ x W _ ⟨_, run_beginRound hl (by rw [hmk]), ?_⟩)⟩
      obtain ⟨W2, hW2⟩ : ∃ W2, W.putObj (w.heap.size + 1) (.loop { mk .ready none with state := .busy }) = W2 := ⟨_, rfl⟩
      rw [hW2]
      have hl2 : W2.heap[w.heap.size + 1]? = some (.loop { mk .ready none with state := .busy }) := by rw [← hW2]; exact World.putObj_heap_same hlt
      have hk2 : W2.heap[w.heap.size]? = some (.deferred (some [])) := by rw [← hW2]; exact (World.putObj_heap_other (by omega)).trans hk
      have hsp : Spans n0 lo hi W W2 := by rw [← hW2]; exact Spans.put _ _ (by omega) (by omega) (by omega)
      have hz2 : W2.heap.size = W.heap.size := by rw [← hW2]; simp
      have hi2 : I pre W2 := by rw [← hW2]; exact hI.put _ hi' (by omega) hl rfl
      refine wpIn_mono (hbody _ pre x rest _ hx (by omega) hi2) ?_
      have fin : ∀ (jump : Option Code) (W3 : World), KeepsOthers W2 W3 → ∃ W4, (Instr.endRound (w.heap.size + 1) jump).run P W3 = .ok (.bool jump.isNone) W4 ∧ W4 = W3.putObj (w.heap.size + 1) (.loop (mk (if jump.isNone then .ready else .done) jump)) ∧
          W3.heap[w.heap.size + 1]? = some (.loop { mk .ready none with state := .busy }) ∧
          W4.heap[w.heap.size + 1]? = some (.loop (mk (if jump.isNone then .ready else .done) jump)) ∧ W4.heap[w.heap.size]? = some (.deferred (some [])) := fun jump W3 hk3 => by
        have hl3 := hk3.same _ _ hl2 rfl
        have hr := run_endRound (P := P) jump hl3
        refine ⟨_, hr, by rw [hmk], hl3, ?_, (World.putObj_heap_other (by omega)).trans (hk3.same _ _ hk2 rfl)⟩
        rw [World.putObj_heap_same (Array.getElem?_eq_some_iff.1 hl3).1, hmk]
      rintro e a3 W3 hp
      cases e with
      | normal =>
        obtain ⟨hk3, hs3, hi3⟩ := hp
        obtain ⟨W4, hr, e4, hl3, hl4, hk4⟩ := fin none W3 hk3
        refine ⟨_, _, hr, .inl ⟨rfl, ⟨?_, hl4, hk4, ?_⟩, ?_⟩⟩
        · rw [e4]; exact hI.put _ hi3 (by omega) hl3 rfl
        · rw [e4]; have := hk3.size; simp; omega
        · rw [e4]; exact (hsp.trans hs3).trans (Spans.put _ _ (by omega) (by omega) (by have := hk3.size; omega))
      | ret =>
        obtain ⟨hk3, hi3⟩ := hp
        obtain ⟨W4, hr, e4, hl3, hl4, hk4⟩ := fin (some .ret) W3 hk3
        refine ⟨_, _, hr, .inr ⟨rfl, ?_, hl4, hk4⟩⟩
        rw [e4]; exact hIx.put _ hi3 (by omega) hl3 rfl
      | exit id => exact hp.elim
      | goto t => exact hp.elim
      | panic ch => exact hp.elim
      | outgrown => exact hp.elim
    · rintro e W2 ⟨⟨v, rfl⟩, (⟨hi2, hl, hk, _⟩ | ⟨pre, hi2, hl, hk⟩)⟩
      · exact ⟨none, _, by have := run_endLoop (P := P) hl (by rw [hmk]; simp); rw [hmk] at this; exact this, hdone _ _ (Nat.le_refl _) (hI.put _ hi2 (by omega) hl rfl) ((World.putObj_heap_other (by omega)).trans hk)⟩
      · exact ⟨some .ret, _, by have := run_endLoop (P := P) hl (by rw [hmk]; simp); rw [hmk] at this; exact this, hstop _ pre _ (Nat.le_refl _) (hIx.put _ hi2 (by omega) hl rfl) ((World.putObj_heap_other (by omega)).trans hk)⟩
/-- What a call keeps that turns nothing older. -/
theorem keeps_of_below {A C : World} (h : Below A.heap.size A C) : KeepsOthers A C := ⟨h.size, fun k o hk _ => (h.block k (Array.getElem?_eq_some_iff.1 hk).1).trans hk⟩
theorem keeps_setRow {A : World} {g : Nat} {cs : Array Value} {T : Nat} (h : A.heap[g]? = some (.cells cs T (0, 0))) (new : Array Value) : KeepsOthers A (A.setRow g new) :=
  ⟨by simp [World.setRow], fun k o hk ho => by
    by_cases e : k = g
    · subst e; rw [h] at hk; cases hk; cases ho
    · exact (setRow_other A g k new e).trans hk⟩
/-- What is known of memory bears the iterator's and the loop's own turns. -/
theorem St.grown {L : World → Prop} {w0 w w' : World} {rows : List Row} {row : Option Nat} (h : St L w0 rows w) (hg : w.grownBy w' row) (hr : ∀ r, row = some r → w0.heap.size ≤ r ∧ r ∉ rows.map (·.1)) : St L w0 rows w' :=
  ⟨h.base, h.keeps, h.below.grown hg h.below.size (fun k e => (hr k e).1), fun x hx => ⟨(hg.block x.1 (Array.getElem?_eq_some_iff.1 (h.has x hx).1).1 (fun e => (hr x.1 e.symm).2 (List.mem_map.2 ⟨x, hx, rfl⟩))).trans (h.has x hx).1, (h.has x hx).2⟩, h.apart⟩
/-- What a round knows: the call's own rows; what it owes to the loop and to the iterator. -/
structure InR (n0 lo hi : Nat) (W : World) (L : World → Prop) (w0 : World) (rows : List Row) (w : World) : Prop where
  st : St L w0 rows w
  keep : KeepsOthers W w
  span : Spans n0 lo hi W w
  hn : n0 ≤ w0.heap.size
  hh : hi ≤ w.heap.size
section
variable {n0 lo hi : Nat} {W w0 w : World} {L : World → Prop} {rows : List Row} {m : Nat} {l : Nat} {ops : Array Oper} {rest : List Oper} {o : Oper} {a : Act} {Q : Exit → Act → World → Prop}
theorem InR.start (h : St L w0 rows w) (hn : n0 ≤ w0.heap.size) (hh : hi ≤ w.heap.size) : InR n0 lo hi w L w0 rows w := ⟨h, KeepsOthers.refl _, Spans.refl _ _ _ _, hn, hh⟩
theorem InR.mono (h : InR n0 lo hi W L w0 rows w) {w' : World} (hb : Below w.heap.size w w') : InR n0 lo hi W L w0 rows w' :=
  ⟨h.st.mono hb, h.keep.trans (keeps_of_below hb), h.span.trans (Spans.below hb (Nat.le_trans h.hn h.st.below.size) h.hh), h.hn, Nat.le_trans h.hh hb.size⟩
theorem InR.call (h : InR n0 lo hi W L w0 rows w) {k : Nat} {args : Array Value} {v : Value} (hc : L w → Calls Tryz.prog k args w fun e w' => e = .returned v ∧ Below w.heap.size w w') : CallsIn (Fence.wide.inRound l) m Tryz.prog k args w fun e w' => e = .returned v ∧ InR n0 lo hi W L w0 rows w' :=
  CallsIn.inRound l (callsIn_wide.2 ((hc h.st.laid).mono fun _ _ ⟨he, hb⟩ => ⟨he, h.mono hb⟩))
theorem InR.new (h : InR n0 lo hi W L w0 rows w) (cs : Array Value) (T : Nat) : InR n0 lo hi W L w0 ((w.heap.size, cs, T) :: rows) (w.alloc (.cells cs T)) := by
  have h' := h.mono ((Below.refl _ w).alloc (Nat.le_refl _) (.cells cs T))
  exact ⟨h.st.alloc cs T, h'.keep, h'.span, h'.hn, h'.hh⟩
theorem InR.set (h : InR n0 lo hi W L w0 rows w) {g cs new T rows'} (hm : RowSet g cs new T rows rows') (hg : g < lo ∨ hi ≤ g) : InR n0 lo hi W L w0 rows' (w.setRow g new) := by
  obtain ⟨hg1, hg2⟩ := h.st.has _ hm.mem
  have hb : Below n0 w (w.setRow g new) := below_setRow (Below.refl _ _) (Nat.le_trans h.hn hg2) new
  exact ⟨h.st.set hm, h.keep.trans (keeps_setRow hg1 new), h.span.trans ⟨hb, fun k h1 h2 => setRow_other w g k new (by omega)⟩, h.hn, Nat.le_trans h.hh hb.size⟩
theorem InR.tail {x : Row} (h : InR n0 lo hi W L w0 (x :: rows) w) : InR n0 lo hi W L w0 rows w :=
  ⟨⟨h.st.base, h.st.keeps, h.st.below, fun y hy => h.st.has y (.tail _ hy), by have := h.st.apart; simp only [List.map_cons, List.nodup_cons] at this; exact this.2⟩, h.keep, h.span, h.hn, h.hh⟩
theorem grownBy_setRow (w : World) (g : Nat) (cs : Array Value) : w.grownBy (w.setRow g cs) (some g) := ⟨rfl, rfl, rfl, by simp [World.setRow], fun k _ hk => setRow_other w g k cs (fun e => hk (by rw [e]))⟩
theorem InR.grown (h : InR n0 lo hi W L w0 rows w) {w' : World} {row : Option Nat} (hg : w.grownBy w' row) (hr : ∀ r, row = some r → hi ≤ r ∧ w0.heap.size ≤ r ∧ r ∉ rows.map (·.1) ∧ ∃ o : Obj, w.heap[r]? = some o ∧ o.isCells = true) : InR n0 lo hi W L w0 rows w' := by
  have hz := Nat.le_trans h.hn h.st.below.size
  refine ⟨h.st.grown hg (fun r e => ⟨(hr r e).2.1, (hr r e).2.2.1⟩), h.keep.trans (KeepsOthers.of_grownBy hg fun j o e ho => ?_), h.span.trans ⟨(Below.refl n0 w).grown hg hz (fun k e => Nat.le_trans h.hn (hr k e).2.1), fun k h1 h2 => hg.block k (Nat.lt_of_lt_of_le h2 h.hh) (fun e => by have := (hr k e.symm).1; omega)⟩, h.hn, Nat.le_trans h.hh hg.size⟩
  obtain ⟨o', ho', hc⟩ := (hr j e).2.2.2
  rw [ho] at ho'; cases ho'; exact hc
theorem in_val (hg : o.guard = none) (hd : ∀ c, o.op ≠ .defer c) (hc : ∀ c, o.op ≠ .call c) {F : Fence} {v : Value} {w' : World} (hr : (execOp a.eval o).run Tryz.prog w = .ok (.value v) w')
    (h : wpListIn F m Tryz.prog ops Q rest (a.put o.dst v) w') : wpListIn F m Tryz.prog ops Q (o :: rest) a w :=
  wpListIn_plain hg fun K hK => by
    unfold Oper.wpIn
    refine ⟨fun f hf => ?_, ?_⟩
    · unfold Oper.about at hf
      split at hf
      · rename_i c he; exact absurd he (hc c)
      · cases hf
    · rw [Oper.semAt_plain F _ _ hd, hr]
      exact hK _ _ h
theorem in_skip (hg : o.guard = none) (hd : ∀ c, o.op ≠ .defer c) (hc : ∀ c, o.op ≠ .call c) {F : Fence} {w' : World} (hr : (execOp a.eval o).run Tryz.prog w = .ok .skip w')
    (h : wpListIn F m Tryz.prog ops Q rest (a.put o.dst undef) w') : wpListIn F m Tryz.prog ops Q (o :: rest) a w :=
  wpListIn_plain hg fun K hK => by
    unfold Oper.wpIn
    refine ⟨fun f hf => ?_, ?_⟩
    · unfold Oper.about at hf
      split at hf
      · rename_i c he; exact absurd he (hc c)
      · cases hf
    · rw [Oper.semAt_plain F _ _ hd, hr]
      exact hK _ _ h
variable {dst : Option Tmp} {ty : TypeId} {pos : String} {af : Array Edge} {F : Fence}
theorem in_at_alloc {T : Nat} (h : wpListIn F m Tryz.prog ops Q ((⟨dst, .alloc T, ty, pos, af, none⟩ : Oper) :: rest) a w) : wpListIn F m Tryz.prog ops Q ((⟨dst, .alloc T, ty, pos, af, none⟩ : Oper) :: rest) a w := h
theorem in_at_load {T : Nat} {x : Operand} (h : wpListIn F m Tryz.prog ops Q ((⟨dst, .load T x, ty, pos, af, none⟩ : Oper) :: rest) a w) : wpListIn F m Tryz.prog ops Q ((⟨dst, .load T x, ty, pos, af, none⟩ : Oper) :: rest) a w := h
theorem in_at_store {T : Nat} {x y : Operand} (h : wpListIn F m Tryz.prog ops Q ((⟨dst, .store T x y, ty, pos, af, none⟩ : Oper) :: rest) a w) : wpListIn F m Tryz.prog ops Q ((⟨dst, .store T x y, ty, pos, af, none⟩ : Oper) :: rest) a w := h
theorem in_at_slice {T k : Nat} {ps : Array (Nat × Operand)} (h : wpListIn F m Tryz.prog ops Q ((⟨dst, .buildSlice T k ps, ty, pos, af, none⟩ : Oper) :: rest) a w) : wpListIn F m Tryz.prog ops Q ((⟨dst, .buildSlice T k ps, ty, pos, af, none⟩ : Oper) :: rest) a w := h
theorem in_new (T : Nat) (ho : o.op = .alloc T) (hg : o.guard = none) (hI : InR n0 lo hi W L w0 rows w) (cs : Array Value) (hz : ∀ w, (zeroValue T).run Tryz.prog w = .ok (.agg cs) w)
    (h : ∀ g w', hi ≤ g → InR n0 lo hi W L w0 ((g, cs, T) :: rows) w' → wpListIn F m Tryz.prog ops Q rest (a.put o.dst (.pointer (some ⟨g, 0, none⟩))) w') : wpListIn F m Tryz.prog ops Q (o :: rest) a w :=
  in_val hg (fun c e => by rw [ho] at e; cases e) (fun c e => by rw [ho] at e; cases e) (v := .pointer (some ⟨w.heap.size, 0, none⟩)) (w' := w.alloc (.cells cs T))
    (by unfold execOp; simp only [ho, Instr.alloc, newVar, newRow, Sem.run_bind, hz, Result.andThen_ok, Value.cells]; rfl) (h _ _ hI.hh (hI.new cs T))
theorem run_put {w : World} (T : Nat) {g T' : Nat} {cs ds : Array Value} {v : Value} (hv : v.cells = ds) (hg : w.heap[g]? = some (.cells cs T' (0, 0))) (hz : cs.size = ds.size) (hi : (Tryz.prog.info? T).map (·.size) = some ds.size) (h1 : ds.all (·.oneCell') = true) : (storeVar T ⟨g, 0, none⟩ v).run Tryz.prog w = .ok () (w.setRow g ds) := by
  subst hv
  have hst := run_storeCells_at Tryz.prog g 0 T' v.cells.toList 0 cs w hg (by simp [hz]) (fun u hu => (Array.all_eq_true_iff_forall_mem.1 h1) u (by simpa using hu))
  have e : (cs.toList.take (0 + 0) ++ v.cells.toList ++ cs.toList.drop (0 + 0 + v.cells.toList.length)).toArray = v.cells := by
    rw [List.drop_eq_nil_of_le (by simp [hz])]; simp
  rw [e] at hst
  cases hq : Tryz.prog.info? T with
  | none => simp [hq] at hi
  | some i =>
    have hs : v.cells.size = i.size := by simp [hq] at hi; omega
    simp [storeVar, sizeOf, typeInfo, hq, hs, hst]
theorem in_st (T : Nat) {x y : Operand} (ho : o.op = .store T x y) (hg : o.guard = none) (hI : InR n0 lo hi W L w0 rows w) {g T' : Nat} (hx : a.eval x = .pointer (some ⟨g, 0, none⟩)) {v : Value} (hy : a.eval y = v) {cs ds : Array Value} (hv : v.cells = ds) {rows' : List Row} (hm : RowSet g cs ds T' rows rows') (hz : cs.size = ds.size)
    (hi' : (Tryz.prog.info? T).map (·.size) = some ds.size) (h1 : ds.all (·.oneCell') = true) (hlo : g < lo ∨ hi ≤ g) (h : ∀ w', InR n0 lo hi W L w0 rows' w' → wpListIn F m Tryz.prog ops Q rest (a.put o.dst undef) w') : wpListIn F m Tryz.prog ops Q (o :: rest) a w :=
  in_skip hg (fun c e => by rw [ho] at e; cases e) (fun c e => by rw [ho] at e; cases e) (w' := w.setRow g ds)
    (by unfold execOp; simp only [ho, hx, hy, Instr.storeAt, Instr.sureAddr, Sem.run_bind, Sem.run_pure, Result.andThen_ok, run_put T hv (hI.st.has _ hm.mem).1 hz hi' h1]) (h _ (hI.set hm hlo))
theorem in_st1 (T : Nat) {x y : Operand} (ho : o.op = .store T x y) (hg : o.guard = none) (hI : InR n0 lo hi W L w0 rows w) {g T' : Nat} (hx : a.eval x = .pointer (some ⟨g, 0, none⟩)) {v : Value} (hy : a.eval y = v) {cs ds : Array Value} (hv : v.cells = ds) {rows' : List Row} (hm : RowSet g cs ds T' rows rows') (hz : cs.size = ds.size)
    (hi' : (Tryz.prog.info? T).map (·.size) = some ds.size) (h1 : ds.all (·.oneCell') = true) (hlo : g < lo ∨ hi ≤ g) (h : InR n0 lo hi W L w0 rows' (w.setRow g ds) → wpListIn F m Tryz.prog ops Q rest (a.put o.dst undef) (w.setRow g ds)) : wpListIn F m Tryz.prog ops Q (o :: rest) a w :=
  in_skip hg (fun c e => by rw [ho] at e; cases e) (fun c e => by rw [ho] at e; cases e) (w' := w.setRow g ds)
    (by unfold execOp; simp only [ho, hx, hy, Instr.storeAt, Instr.sureAddr, Sem.run_bind, Sem.run_pure, Result.andThen_ok, run_put T hv (hI.st.has _ hm.mem).1 hz hi' h1]) (h (hI.set hm hlo))
theorem in_ld (T : Nat) {x : Operand} (ho : o.op = .load T x) (hg : o.guard = none) (hI : InR n0 lo hi W L w0 rows w) {g T' : Nat} (hx : a.eval x = .pointer (some ⟨g, 0, none⟩)) {cs : Array Value} (hm : RowAt g cs T' rows)
    {d : TypeDesc} (hu : Tryz.prog.underlying T = some d) (hd : d.isRow = true) (hi' : (Tryz.prog.info? T).map (·.size) = some cs.size) (h : wpListIn F m Tryz.prog ops Q rest (a.put o.dst (.agg cs)) w) : wpListIn F m Tryz.prog ops Q (o :: rest) a w :=
  in_val hg (fun c e => by rw [ho] at e; cases e) (fun c e => by rw [ho] at e; cases e) (run_ld_part hI.st ho hx hm (fun j v hj => by simpa using hj) hu hd hi') h
/-- A variable of one cell is read. -/
theorem in_ld1 {T : Nat} {x : Operand} (ho : o.op = .load T x) (hg : o.guard = none) (hI : InR n0 lo hi W L w0 rows w) {g T' : Nat} (hx : a.eval x = .pointer (some ⟨g, 0, none⟩)) {v : Value} (hm : RowAt g #[v] T' rows)
    (hT : ∃ d, Tryz.prog.underlying T = some d ∧ d.isRow = false) (h : wpListIn F m Tryz.prog ops Q rest (a.put o.dst v) w) : wpListIn F m Tryz.prog ops Q (o :: rest) a w :=
  in_val hg (fun c e => by rw [ho] at e; cases e) (fun c e => by rw [ho] at e; cases e) (run_ld_cell hI.st ho hx hm hT rfl) h
/-- A slice of one element. -/
theorem in_lit {T : Nat} {x : Operand} (ho : o.op = .buildSlice T 1 #[(0, x)]) (hg : o.guard = none) (hI : InR n0 lo hi W L w0 rows w) {v : Value} (hx : a.eval x = v) (cs : Array Value) (T' : Nat)
    (hr : ∀ w, (Instr.buildSlice T 1 #[(0, v)]).run Tryz.prog w = .ok (.slice (some ⟨w.heap.size, 0, none⟩) 1 1) (w.alloc (.cells cs T')))
    (h : ∀ g w', hi ≤ g → InR n0 lo hi W L w0 ((g, cs, T') :: rows) w' → wpListIn F m Tryz.prog ops Q rest (a.put o.dst (.slice (some ⟨g, 0, none⟩) 1 1)) w') : wpListIn F m Tryz.prog ops Q (o :: rest) a w :=
  in_val hg (fun c e => by rw [ho] at e; cases e) (fun c e => by rw [ho] at e; cases e) (v := .slice (some ⟨w.heap.size, 0, none⟩) 1 1) (w' := w.alloc (.cells cs T'))
    (by unfold execOp; simp [ho, hx, Sem.run_bind, hr, Result.andThen]) (h _ _ hI.hh (hI.new cs T'))
end
end Go.Proofs.YtakgfbcmkhcdkaaGreatDoor
namespace Go.Proofs.YtakgfbcmkhcdkaaGreatDoor
set_option linter.all false
open Go.ChangeShapes Go.WideShapes Go.RowKit Go.Shelf
attribute [local irreducible] Calls
attribute [local go_sem] Oper.semAt_some
def capsOf (b : Nat) : Array Value := #[.pointer (some ⟨b + 1, 0, none⟩), .pointer (some ⟨b, 0, none⟩), .pointer (some ⟨b + 2, 0, none⟩)]
def seqW (s : Str) (w : World) : World := ((w.alloc (.cells #[.string (B s)] 9)).alloc (.cells #[.string ⟨#[44, 32]⟩] 9)).alloc (.cells #[.int .i64 0] 3)
theorem seqMaker (s : Str) (w : World) : Calls Tryz.prog 122 #[.string (B s), .string ⟨#[44, 32]⟩, .int .i64 0] w fun e w' => e = .returned (.func (.func 147) #[] (capsOf w.heap.size)) ∧ w' = seqW s w := by
  go_enter Tryz.func122, Tryz.ntmps122
  go_wp2
  go_ret
  exact ⟨by simp [capsOf], rfl⟩
theorem seqOf (s : Str) (w : World) (b : Nat) (hb : Hid (w.heap.size = b)) : Calls Tryz.prog 57 #[.string (B s), .string ⟨#[44, 32]⟩] w fun e w' => e = .returned (.func (.func 147) #[] (capsOf b)) ∧ w' = seqW s w := by
  obtain rfl := hb.out
  clear hb
  go_enter Tryz.func57, Tryz.ntmps57
  go_wp2_with ((go_at_call 122; (with_reducible refine (seqMaker _ _).mono ?_); rintro e w' ⟨rfl, rfl⟩))
  go_ret
  exact ⟨rfl, rfl⟩
/-- How much of the text is left, read off the world. -/
def leftAt (b : Nat) (w : World) : Nat := match w.cell? ⟨b, 0, none⟩ with | some (.string x) => x.size | _ => 0
theorem boxCell {w : World} {b T : Nat} {v : Value} (h : w.heap[b]? = some (.cells #[v] T (0, 0))) : w.cell? ⟨b, 0, none⟩ = some v := by simp [World.cell?, h]
theorem boxFree {w : World} {b T : Nat} {v : Value} (h : w.heap[b]? = some (.cells #[v] T (0, 0))) : w.frozen? ⟨b, 0, none⟩ = false := by simp [World.frozen?, h]
theorem leftAt_eq {w : World} {b T : Nat} {x : ByteArray} (h : w.heap[b]? = some (.cells #[.string x] T (0, 0))) : leftAt b w = x.size := by unfold leftAt; rw [boxCell h]
theorem indexO (s : Str) (i : Int) (h : Hid (Lib.index s commaV = i)) (w : World) (hl : Laid w) (hs : s.length < 4294967281) : Calls Tryz.prog 149 #[.string (B s), .string ⟨#[44, 32]⟩] w fun e w' => e = .returned (.int .i64 i) ∧ w' = w :=
  (Tryz.strings_Index_shaped (B s) ⟨#[44, 32]⟩ w hl.shaped (by rw [B_size]; exact hs)).mono fun e w' h' => ⟨h'.1.trans (by rw [← h.out]; rfl), h'.2⟩
set_option maxRecDepth 100000 in
set_option maxHeartbeats 2000000 in
theorem splitSeq1_over (n : Nat) (s : Str) (hs : s.length < 4000000000) (b n0 : Nat) (w : World) (hn0 : n0 ≤ b) (h1 : w.heap[b]? = some (.cells #[.string (B s)] 9 (0, 0))) (h2 : w.heap[b + 1]? = some (.cells #[.string ⟨#[44, 32]⟩] 9 (0, 0))) (h3 : w.heap[b + 2]? = some (.cells #[.int .i64 0] 3 (0, 0)))
    (hL : ∀ W, Below n0 w W → Laid W) : SeqOver Tryz.prog n 147 (capsOf b) b n0 b (b + 3) (csplit s) w := fun l J Jx W hW hJ hJx hY h0 => by
  refine callsIn_of_wp Tryz.func147 rfl trivial ?_ rfl
  simp only [capsOf, Tryz.ntmps147, List.size_toArray, List.length_cons, List.length_nil, Nat.reduceAdd, Nat.reduceSub, Array.replicate_succ, Array.replicate_zero, List.push_toArray, List.append_toArray, List.nil_append, List.cons_append]
  have hb1 : W.heap[b]? = some (.cells #[.string (B s)] 9 (0, 0)) := (hW.2 b (by omega) (by omega)).trans h1
  have hb2 : W.heap[b + 1]? = some (.cells #[.string ⟨#[44, 32]⟩] 9 (0, 0)) := (hW.2 _ (by omega) (by omega)).trans h2
  have hb3 : W.heap[b + 2]? = some (.cells #[.int .i64 0] 3 (0, 0)) := (hW.2 _ (by omega) (by omega)).trans h3
  have hbel := hW.1
  have c1 := boxCell hb1
  have c2 := boxCell hb2
  have c3 := boxCell hb3
  gi_wp2
  clear h1 h2 h3 c1 c2 c3
  gi_loopw [7] (fun _ wr => Hid (∃ (pre : List Str) (cur : Str), csplit s = pre ++ csplit cur ∧ cur.length ≤ s.length ∧ wr.heap[b]? = some (.cells #[.string (B cur)] 9 (0, 0)) ∧ wr.heap[b + 1]? = some (.cells #[.string ⟨#[44, 32]⟩] 9 (0, 0)) ∧ wr.heap[b + 2]? = some (.cells #[.int .i64 0] 3 (0, 0)) ∧ Below n0 w wr ∧ J pre wr)) (fun _ wr => leftAt b wr)
  case atStart => exact Lib.hid ⟨[], s, rfl, Nat.le_refl _, hb1, hb2, hb3, hbel, h0⟩
  case round =>
    clear hb1 hb2 hb3 hbel h0 hW
    obtain ⟨pre, cur, HC, hlen, hb1, hb2, hb3, hbel, hj⟩ := hrel.out
    clear hrel
    have hl := hL _ hbel
    have c1 := boxCell hb1
    have c2 := boxCell hb2
    have c3 := boxCell hb3
    have f1 := boxFree hb1
    have hleft := leftAt_eq hb1
    rw [B_size] at hleft
    rcases csplit_idx cur with ⟨hi, hc⟩ | ⟨i, hi, hi2, hc⟩
    · have HI := Lib.hid hi
      rw [hc] at HC
      obtain ⟨fn, tmps, assign, body, hy, hR⟩ := hY pre cur [] wr HC hj
      have HC' := Lib.hid HC
      clear hi hc HC hleft
      gi_wp2_with ((with_reducible refine And.intro ?_ (And.intro ?_ ?_)); (exact trivial); (intro h; cases h); refine (callsIn_wide.2 (indexO cur _ HI _ hl (by omega))).mono ?_; rintro e w' ⟨rfl, rfl⟩)
      refine ⟨fun h => (by cases h), hR.mono ?_⟩
      rintro e W3 (⟨rfl, hJ3, hk3⟩ | ⟨rfl, hJx3⟩)
      · gi_wp2
        go_end0
        exact ⟨⟨_, rfl⟩, .inl (by rw [HC'.out]; exact hJ3)⟩
      · gi_wp2
        go_end0
        exact ⟨⟨_, rfl⟩, .inr ⟨_, hJx3⟩⟩
    · have HI := Lib.hid hi
      rw [hc] at HC
      obtain ⟨fn, tmps, assign, body, hy, hR⟩ := hY pre (cur.take i) (csplit (cur.drop (i + 2))) wr HC hj
      have hsz : (B cur).size = cur.length := B_size cur
      have HC' : Hid (csplit s = (pre ++ [cur.take i]) ++ csplit (cur.drop (i + 2))) := Lib.hid (by rw [HC]; simp)
      have hx1 : (B cur).extract 0 i = B (cur.take i) := L_inj (by rw [L_extract, L_B, L_B]; simp)
      have hx2 : (B cur).extract (i + 2) cur.length = B (cur.drop (i + 2)) := L_inj (by rw [L_extract, L_B, L_B, List.take_of_length_le (Nat.le_refl _)])
      clear hi hc HC
      gi_wp2_with ((with_reducible refine And.intro ?_ (And.intro ?_ ?_)); (exact trivial); (intro h; cases h); refine (callsIn_wide.2 (indexO cur _ HI _ hl (by omega))).mono ?_; rintro e w' ⟨rfl, rfl⟩)
      refine ⟨fun h => (by cases h), hR.mono ?_⟩
      rintro e W3 (⟨rfl, hJ3, hk3⟩ | ⟨rfl, hJx3⟩)
      · have hb1' := (hk3.2 b (by omega) (by omega)).trans hb1
        have hb2' := (hk3.2 (b + 1) (by omega) (by omega)).trans hb2
        have hb3' := (hk3.2 (b + 2) (by omega) (by omega)).trans hb3
        have d1 := boxCell hb1'
        have d2 := boxCell hb2'
        have g1 := boxFree hb1'
        gi_wp2
        go_roundw
        case rel =>
          have hset : (W3.setCell ⟨b, 0, none⟩ (.string (B (cur.drop (i + 2))))).heap[b]? = some (.cells #[.string (B (cur.drop (i + 2)))] 9 (0, 0)) := Boxed.set (t := 9) _ hb1'
          refine Lib.hid ⟨pre ++ [cur.take i], cur.drop (i + 2), HC'.out, by simp; omega, hset, (Below.heap_setCell _ _ _ _ (by simp)).trans hb2', (Below.heap_setCell _ _ _ _ (by simp)).trans hb3', ((hbel.trans hk3.1).setCell (p := ⟨b, 0, none⟩) hn0 _), ?_⟩
          exact hJ _ _ _ (some b) hJ3 (grownBy_setCell' W3 b _) (fun r e => by cases e; rfl)
        case measure =>
          have hset : (W3.setCell ⟨b, 0, none⟩ (.string (B (cur.drop (i + 2))))).heap[b]? = some (.cells #[.string (B (cur.drop (i + 2)))] 9 (0, 0)) := Boxed.set (t := 9) _ hb1'
          rw [leftAt_eq hset, leftAt_eq hb1, B_size, B_size, List.length_drop]
          omega
      · gi_wp2
        refine bodyPost_ret (results_none rfl _ _ _) rfl ?_
        exact ⟨⟨_, rfl⟩, .inr ⟨_, hJx3⟩⟩
end Go.Proofs.YtakgfbcmkhcdkaaGreatDoor
namespace Go.Proofs.YtakgfbcmkhcdkaaGreatDoor
set_option linter.all false
open Go.ChangeShapes Go.WideShapes Go.RowKit Go.Shelf
attribute [local irreducible] Calls
attribute [local go_sem] Oper.semAt_some
abbrev TMds : Nat := 51
theorem own_not {w : World} {base e size k : Nat} {v : Value} {xs : List Value} (h : w.ownsRow base e size v k xs) {row : Option Nat} (hr : ∀ r, row = some r → r < base ∨ ∃ o : Obj, w.heap[r]? = some o ∧ o.isCells = false) : v.ownBlock = none ∨ v.ownBlock ≠ row := by
  rcases h.2 with ⟨rfl, _⟩ | ⟨g, cap, cur, rfl, hb, hgb, _⟩
  · exact .inl rfl
  · refine .inr fun e' => ?_
    rcases hr g (by simpa [Value.ownBlock] using e'.symm) with h1 | ⟨o, ho, hc⟩
    · omega
    · rw [hgb] at ho; cases ho; cases hc
theorem md_lit (r : Md) : ∀ w : World, (Instr.buildSlice TMds 1 #[(0, .agg (Md.cells r))]).run Tryz.prog w = .ok (.slice (some ⟨w.heap.size, 0, none⟩) 1 1) (w.alloc (.cells (Md.cells r) TMd)) := fun _ => by kernel_rfl
theorem md_full : (Tryz.prog.info? TMd).map (fun i => (i.zero, i.size, i.bytes)) = some (some (.agg zeroM.cells), 20, 176) := by kernel_rfl
def mdFlat (l : List Md) : List Value := l.flatMap fun r => r.cells.toList
theorem mdFlat_snoc (l : List Md) (m : Md) : mdFlat (l ++ [m]) = mdFlat l ++ m.cells.toList := by simp [mdFlat]
theorem mdFlat_len (l : List Md) : (mdFlat l).length = l.length * 20 := by
  induction l with
  | nil => rfl
  | cons a l ih => rw [mdFlat, List.flatMap_cons, List.length_append, show (l.flatMap fun r => r.cells.toList) = mdFlat l from rfl, ih, show a.cells.toList.length = 20 from rfl, List.length_cons]; omega
theorem mlRun_app : ∀ (pre : List Str) (out l : List Md) (r : List Str), mlRun out pre = some l → mlRun out (pre ++ r) = mlRun l r
  | [], out, l, r, h => by rw [mlRun] at h; injection h with h; rw [h]; rfl
  | p :: pre, out, l, r, h => by
    rw [mlRun] at h
    rw [List.cons_append, mlRun]
    cases hp : mdParse p with
    | none => rw [hp] at h; cases h
    | some m =>
      rw [hp] at h
      simp only at h ⊢
      split at h
      · cases h
      · rename_i h6
        rw [if_neg h6]
        exact mlRun_app pre _ l r h
theorem mlRun_one (l : List Md) (x : Str) (m : Md) (h : mdParse x = some m) (h6 : ¬ l.length = 6) : mlRun l [x] = some (l ++ [m]) := by
  rw [mlRun, h]; simp only; rw [if_neg h6, mlRun]
theorem mlRun_bad (l : List Md) (x : Str) (r : List Str) (h : mdParse x = none ∨ l.length = 6) : mlRun l (x :: r) = none := by
  rw [mlRun]
  cases hp : mdParse x with
  | none => rfl
  | some m =>
    rcases h with h | h
    · rw [hp] at h; cases h
    · simp only; rw [if_pos h]
theorem csplit_mem (s x : Str) (h : x ∈ csplit s) : x.length ≤ s.length := by
  have := csAux_mem s [] false x h
  simpa using this
/-- What ParseList hands back. -/
def ListP (s : Str) (w : World) (e : Ending) (w' : World) : Prop :=
  Below w.heap.size w w' ∧ ((mlParse s = none ∧ e = .returned (.tuple #[.slice none 0 0, .int .i64 3])) ∨ (∃ l v, mlParse s = some l ∧ e = .returned (.tuple #[v, .int .i64 0]) ∧ w'.ownsRow w.heap.size TMd 20 v l.length (mdFlat l)))
theorem mdParse_is (s : Str) (hs : s.length < 100000000) (R : Option Md) (h : Hid (mdParse s = R)) (w : World) (hl : Laid w) : Calls Tryz.prog 18 #[.string (B s)] w fun e w' => e = .returned (mdRet R) ∧ Below w.heap.size w w' :=
  (mdParse_any s hs w hl).mono fun e w' h' => ⟨by rw [h'.1, h.out], h'.2⟩
/-- Between two rounds: what has been read lies in a row of the call's own. -/
def Lst (w0 : World) (pre : List Str) (W : World) : Prop :=
  ∃ (l : List Md) (v : Value), mlRun [] pre = some l ∧ l.length ≤ 6 ∧ W.ownsRow (w0.heap.size + 6) TMd 20 v l.length (mdFlat l) ∧ St Laid w0 [(w0.heap.size + 2, #[v], TMds), (w0.heap.size + 1, #[.int .i64 0], 32), (w0.heap.size, #[.slice none 0 0], TMds)] W
def LstX (s : Str) (w0 : World) (_ : List Str) (W : World) : Prop :=
  mlParse s = none ∧ ∃ v, St Laid w0 [(w0.heap.size + 2, #[v], TMds), (w0.heap.size + 1, #[.int .i64 3], 32), (w0.heap.size, #[.slice none 0 0], TMds)] W
theorem Lst.bears (w0 : World) (B : Nat) (hB : w0.heap.size + 6 ≤ B) : Bears (w0.heap.size + 3) B (Lst w0) := by
  rintro pre A C row ⟨l, v, h1, h2, h3, h4⟩ hg hr
  refine ⟨l, v, h1, h2, h3.kept hg (own_not h3 fun r e => ?_), h4.grown hg fun r e => ?_⟩
  · rcases hr r e with h | ⟨_, h⟩
    · left; omega
    · exact .inr h
  · rcases hr r e with h | ⟨h, _⟩ <;> (simp only [List.map_cons, List.map_nil, List.mem_cons, List.not_mem_nil, or_false]; omega)
theorem LstX.bears (s : Str) (w0 : World) (B : Nat) (hB : w0.heap.size + 6 ≤ B) : Bears (w0.heap.size + 3) B (LstX s w0) := by
  rintro pre A C row ⟨h1, v, h4⟩ hg hr
  refine ⟨h1, v, h4.grown hg fun r e => ?_⟩
  rcases hr r e with h | ⟨h, _⟩ <;> (simp only [List.map_cons, List.map_nil, List.mem_cons, List.not_mem_nil, or_false]; omega)
theorem md_all (r : Md) : (Md.cells r).all (·.oneCell') = true := by kernel_rfl
theorem nil_all : (#[.slice none 0 0] : Array Value).all (·.oneCell') = true := by kernel_rfl
theorem three_all : (#[.int .i64 3] : Array Value).all (·.oneCell') = true := by kernel_rfl
theorem slice_all (g k c : Nat) : (#[.slice (some ⟨g, 0, none⟩) k c] : Array Value).all (·.oneCell') = true := by kernel_rfl
theorem row_add {w : World} {g T : Nat} {cs : Array Value} (h : w.heap[g]? = some (.cells cs T (0, 0))) : ∀ (j : Nat) (u : Value), cs.toList[j]? = some u → w.cell? ((⟨g, 0, none⟩ : Addr).add j) = some u := fun j u hj => by
  have e : ((⟨g, 0, none⟩ : Addr).add j) = ⟨g, j, none⟩ := by simp [Addr.add]; try (intro h; exact h.symm)
  rw [e, cell_of_row w g j cs T (0, 0) h]; simpa using hj
theorem own_setRow {w : World} {base e size k : Nat} {v : Value} {xs : List Value} (h : w.ownsRow base e size v k xs) (g : Nat) (cs : Array Value) (hg : g < base) : (w.setRow g cs).ownsRow base e size v k xs := h.kept (grownBy_setRow w g cs) (own_not h fun r e => by cases e; exact .inl hg)
theorem own_le {w : World} {b b' e size k : Nat} {v : Value} {xs : List Value} (hb : b' ≤ b) (h : w.ownsRow b e size v k xs) : w.ownsRow b' e size v k xs := by
  refine ⟨h.1, ?_⟩
  rcases h.2 with h | ⟨g, cap, cur, h1, h2, h3⟩
  · exact .inl h
  · exact .inr ⟨g, cap, cur, h1, by omega, h3⟩
theorem md_ones (r : Md) : ∀ u ∈ r.cells.toList, u.oneCell' = true := fun u hu => (Array.all_eq_true_iff_forall_mem.1 (md_all r)) u (by simpa using hu)
theorem zero_all : (#[.int .i64 0] : Array Value).all (·.oneCell') = true := by kernel_rfl
theorem mds_size : (Tryz.prog.info? TMds).map (·.size) = some 1 := by kernel_rfl
theorem errno_size : (Tryz.prog.info? 32).map (·.size) = some 1 := by kernel_rfl
theorem mds_scal : ∃ d, Tryz.prog.underlying TMds = some d ∧ d.isRow = false := ⟨_, Tryz.underlying51, rfl⟩
theorem in_app_md {w : World} {F : Fence} {n : Nat} {ops : Array Oper} {rest : List Oper} {o : Oper} {a : Act} {Q : Exit → Act → World → Prop} {ms : List Md} {r : Md} {b : Nat} {v : Value} {x y : Operand} (ho : o.op = .call { callee := .builtin .append, args := #[x, y], argTypes := #[TMds, TMds] }) (hg : o.guard = none) (hs : a.eval x = v) (own : w.ownsRow b TMd 20 v ms.length (mdFlat ms))
    {g3 : Nat} (hx : a.eval y = .slice (some ⟨g3, 0, none⟩) 1 1) (hr : w.heap[g3]? = some (.cells r.cells TMd (0, 0))) (h6 : ms.length ≤ 1000000) (hb : b ≤ w.heap.size)
    (h : ∀ g' cap' w1, w1.ownsRow b TMd 20 (.slice (some ⟨g', 0, none⟩) (ms.length + 1) cap') (ms.length + 1) (mdFlat (ms ++ [r])) → w.grownBy w1 v.ownBlock → wpListIn F n Tryz.prog ops Q rest (a.put o.dst (.slice (some ⟨g', 0, none⟩) (ms.length + 1) cap')) w1) : wpListIn F n Tryz.prog ops Q (o :: rest) a w := by
  obtain ⟨i0, hi0, hz0, hz1, hz2⟩ := info_parts md_full
  refine wpListIn_append_own w hg x y TMds ho b TMd i0 (.agg zeroM.cells) 20 176 Tryz.underlying51 hi0 hz0 hz1 hz2 rfl (by decide) v ms.length (mdFlat ms) hs own ⟨g3, 0, none⟩ 1 1 r.cells.toList hx rfl (row_add hr) (md_ones r) (by unfold maxLen; omega) (by omega) hb ?_
  intro v' w1 hown hgrow _
  obtain ⟨g', cap', rfl⟩ := ownsRow_succ hown
  exact h g' cap' w1 (by rw [mdFlat_snoc]; exact hown) hgrow
theorem mdParse_some (s : Str) (hs : s.length < 100000000) (r : Md) (h : Hid (mdParse s = some r)) (w : World) (hl : Laid w) : Calls Tryz.prog 18 #[.string (B s)] w fun e w' => e = .returned (.tuple #[.agg r.cells, .int .i64 0]) ∧ Below w.heap.size w w' := mdParse_is s hs _ h w hl
theorem mdParse_none (s : Str) (hs : s.length < 100000000) (h : Hid (mdParse s = none)) (w : World) (hl : Laid w) : Calls Tryz.prog 18 #[.string (B s)] w fun e w' => e = .returned (.tuple #[.agg zeroM.cells, .int .i64 3]) ∧ Below w.heap.size w w' := mdParse_is s hs _ h w hl
theorem St.add {L : World → Prop} {w0 w : World} {rows : List Row} (h : St L w0 rows w) {g T : Nat} {cs : Array Value} (hg : w.heap[g]? = some (.cells cs T (0, 0))) (h1 : w0.heap.size ≤ g) (hn : g ∉ rows.map (·.1)) : St L w0 ((g, cs, T) :: rows) w := by
  refine ⟨h.base, h.keeps, h.below, ?_, ?_⟩
  · intro x hx
    rcases List.mem_cons.1 hx with rfl | hx
    · exact ⟨hg, h1⟩
    · exact h.has x hx
  · simp only [List.map_cons, List.nodup_cons]
    exact ⟨hn, h.apart⟩
set_option maxRecDepth 100000 in
set_option maxHeartbeats 4000000 in
theorem parseList_any (s : Str) (hs : s.length < 100000000) (w0 : World) (hl : Laid w0) : Calls Tryz.prog 24 #[.string (B s)] w0 (ListP s w0) := by
  have hS0 := St.start hl keepsL
  refine (callsIn_wide (n := 3)).1 ?_
  refine callsIn_of_wp_marks Tryz.func24 rfl trivial ?_ rfl
  simp only [Tryz.ntmps24, List.size_toArray, List.length_cons, List.length_nil, Nat.reduceAdd, Nat.reduceSub, Array.replicate_succ, Array.replicate_zero, List.push_toArray, List.append_toArray, List.nil_append, List.cons_append]
  gi_wp2_with ((with_reducible refine And.intro ?_ ?_); (exact trivial); refine (callsIn_wide.2 (seqOf s _ (w0.heap.size + 3) (Lib.hid (by simp)))).mono ?_; rintro e w' ⟨rfl, rfl⟩)
  have hS : St Laid w0 [(w0.heap.size + 2, #[.slice none 0 0], TMds), (w0.heap.size + 1, #[.int .i64 0], 32), (w0.heap.size, #[.slice none 0 0], TMds)] (((w0.alloc (.cells #[.slice none 0 0] TMds)).alloc (.cells #[.int .i64 0] 32)).alloc (.cells #[.slice none 0 0] TMds)) := by
    have h1 := ((hS0.alloc #[.slice none 0 0] TMds).alloc #[.int .i64 0] 32).alloc #[.slice none 0 0] TMds
    simp only [World.size_alloc] at h1
    exact h1
  have hz : (((w0.alloc (.cells #[.slice none 0 0] TMds)).alloc (.cells #[.int .i64 0] 32)).alloc (.cells #[.slice none 0 0] TMds)).heap.size = w0.heap.size + 3 := by simp
  change Code.wpIn _ _ _ _ _ _ (seqW s (((w0.alloc (.cells #[.slice none 0 0] TMds)).alloc (.cells #[.int .i64 0] 32)).alloc (.cells #[.slice none 0 0] TMds)))
  generalize ((w0.alloc (.cells #[.slice none 0 0] TMds)).alloc (.cells #[.int .i64 0] 32)).alloc (.cells #[.slice none 0 0] TMds) = W2 at *
  have b1 : (seqW s W2).heap[w0.heap.size + 3]? = some (.cells #[.string (B s)] 9 (0, 0)) := by
    unfold seqW; rw [← hz]; exact (Below.heap_alloc _ _ _ (by simp; omega)).trans ((Below.heap_alloc _ _ _ (by simp)).trans (World.alloc_heap_new _ _))
  have b2 : (seqW s W2).heap[w0.heap.size + 3 + 1]? = some (.cells #[.string ⟨#[44, 32]⟩] 9 (0, 0)) := by
    unfold seqW; rw [← hz]; refine (Below.heap_alloc _ _ _ (by simp)).trans ?_
    have := World.alloc_heap_new (W2.alloc (.cells #[.string (B s)] 9)) (.cells #[.string ⟨#[44, 32]⟩] 9)
    rwa [World.size_alloc] at this
  have b3 : (seqW s W2).heap[w0.heap.size + 3 + 2]? = some (.cells #[.int .i64 0] 3 (0, 0)) := by
    unfold seqW; rw [← hz]
    have := World.alloc_heap_new ((W2.alloc (.cells #[.string (B s)] 9)).alloc (.cells #[.string ⟨#[44, 32]⟩] 9)) (.cells #[.int .i64 0] 3)
    rwa [World.size_alloc, World.size_alloc] at this
  have hz3 : (seqW s W2).heap.size = w0.heap.size + 6 := by unfold seqW; simp [hz]
  have hS3 : St Laid w0 [(w0.heap.size + 2, #[.slice none 0 0], TMds), (w0.heap.size + 1, #[.int .i64 0], 32), (w0.heap.size, #[.slice none 0 0], TMds)] (seqW s W2) := hS.mono (by unfold seqW; exact (((Below.refl _ W2).alloc (Nat.le_refl _) _).alloc (by simp) _).alloc (by simp; omega) _)
  generalize seqW s W2 = W3 at *
  clear hS hz W2
  have hL : ∀ W, Below w0.heap.size W3 W → Laid W := fun W hb => hl.below (hS3.below.trans hb)
  refine wpIn_over (P := Tryz.prog) (n := 3) (gf := 147) (lb := capsOf (w0.heap.size + 3)) rfl (enters_of Tryz.func147 (by kernel_rfl) rfl) (c := w0.heap.size + 3) (n0 := w0.heap.size) (lo := w0.heap.size + 3) (hi := w0.heap.size + 3 + 3) (parts := csplit s)
    (splitSeq1_over _ s (by omega) (w0.heap.size + 3) w0.heap.size W3 (by omega) b1 b2 b3 hL) (by omega) (by omega) (by omega) rfl (Lst w0) (LstX s w0) (Lst.bears w0 _ (by omega)) (LstX.bears s w0 _ (by omega))
    ⟨[], .slice none 0 0, rfl, by simp, World.ownsRow_nil _ _ _ _, hS3⟩ ?a1 ?assign ?body ?done ?stop
  case assign =>
    intro l x W K hK
    gi_wp2
    exact hK
  case body =>
    rintro l pre x rest W hx hsz ⟨ms, v, h1, h2, h3, h4⟩
    have hxl : x.length ≤ s.length := csplit_mem s x (by rw [hx]; simp)
    have hp : mlParse s = mlRun ms (x :: rest) := by unfold mlParse; rw [hx]; exact mlRun_app pre [] ms _ h1
    have hp1 : mlRun [] (pre ++ [x]) = mlRun ms [x] := mlRun_app pre [] ms _ h1
    have HP := Lib.hid hp
    have HP1 := Lib.hid hp1
    clear hp hp1 h1
    obtain ⟨R, hR⟩ : ∃ R, mdParse x = R := ⟨_, rfl⟩
    cases R with
    | none =>
      have HR := Lib.hid hR
      have HX : Hid (mlParse s = none) := Lib.hid (by rw [HP.out]; exact mlRun_bad ms x rest (.inl hR))
      clear hR HP HP1 h3
      have hI := InR.start (n0 := w0.heap.size) (lo := w0.heap.size + 3) (hi := w0.heap.size + 3 + 3) h4 (Nat.le_refl _) (by omega)
      gi_wp2_with (first | ((with_reducible refine And.intro ?_ ?_); (exact trivial); refine (InR.call hI fun hl => mdParse_none x (by omega) HR _ hl).mono ?_; rintro e w ⟨rfl, hI⟩) | ((with_reducible refine in_at_alloc ?_); refine in_new TMd rfl rfl hI _ md_new ?_; intro g2 w hg2 hI) | ((with_reducible refine in_at_store ?_); refine in_st TMd rfl rfl hI rfl rfl (ds := Md.cells _) rfl .head rfl md_info (md_all _) (.inr hg2) ?_; intro w hI; have c4 := hI.st.cellI (.tail .head) 0 (v := v) rfl) | ((with_reducible refine in_at_store ?_); refine in_st TMds rfl rfl hI rfl rfl (ds := #[.slice none 0 0]) rfl (by (first | exact .head | exact .tail .head | exact .tail (.tail .head) | exact .tail (.tail (.tail .head)) | exact .tail (.tail (.tail (.tail .head))) | fail)) (by rfl) mds_size nil_all (.inl (by omega)) ?_; intro w hI) | ((with_reducible refine in_at_store ?_); refine in_st 32 rfl rfl hI rfl rfl (ds := #[.int .i64 3]) rfl (by (first | exact .head | exact .tail .head | exact .tail (.tail .head) | exact .tail (.tail (.tail .head)) | exact .tail (.tail (.tail (.tail .head))) | fail)) (by rfl) errno_size three_all (.inl (by omega)) ?_; intro w hI))
      exact ⟨hI.keep, HX.out, _, hI.tail.st⟩
    | some m =>
      have hR' := hR
      have HR := Lib.hid hR
      clear hR
      by_cases h6 : ms.length = 6
      · have HX : Hid (mlParse s = none) := Lib.hid (by rw [HP.out]; exact mlRun_bad ms x rest (.inr h6))
        clear HP HP1 hR'
        have hI := InR.start (n0 := w0.heap.size) (lo := w0.heap.size + 3) (hi := w0.heap.size + 3 + 3) h4 (Nat.le_refl _) (by omega)
        rcases h3.2 with ⟨rfl, h0⟩ | ⟨g, cap, cur, rfl, hb, hg, hn, hcap, hcs, htk⟩
        · omega
        · clear h3 htk
          rw [h6] at hI
          gi_wp2_with (first | ((with_reducible refine And.intro ?_ ?_); (exact trivial); refine (InR.call hI fun hl => mdParse_some x (by omega) m HR _ hl).mono ?_; rintro e w ⟨rfl, hI⟩) | ((with_reducible refine in_at_alloc ?_); refine in_new TMd rfl rfl hI _ md_new ?_; intro g2 w hg2 hI) | ((with_reducible refine in_at_store ?_); refine in_st TMd rfl rfl hI rfl rfl (ds := Md.cells _) rfl .head rfl md_info (md_all _) (.inr hg2) ?_; intro w hI; have c4 := hI.st.cellI (.tail .head) 0 (v := .slice (some ⟨g, 0, none⟩) 6 cap) rfl) | ((with_reducible refine in_at_store ?_); refine in_st TMds rfl rfl hI rfl rfl (ds := #[.slice none 0 0]) rfl (by (first | exact .head | exact .tail .head | exact .tail (.tail .head) | exact .tail (.tail (.tail .head)) | exact .tail (.tail (.tail (.tail .head))) | fail)) (by rfl) mds_size nil_all (.inl (by omega)) ?_; intro w hI) | ((with_reducible refine in_at_store ?_); refine in_st 32 rfl rfl hI rfl rfl (ds := #[.int .i64 3]) rfl (by (first | exact .head | exact .tail .head | exact .tail (.tail .head) | exact .tail (.tail (.tail .head)) | exact .tail (.tail (.tail (.tail .head))) | fail)) (by rfl) errno_size three_all (.inl (by omega)) ?_; intro w hI))
          exact ⟨hI.keep, HX.out, _, hI.tail.st⟩
      · have HN : Hid (mlRun [] (pre ++ [x]) = some (ms ++ [m])) := Lib.hid (by rw [HP1.out]; exact mlRun_one ms x m hR' h6)
        clear HP HP1 hR'
        rcases h3.2 with ⟨rfl, h0⟩ | ⟨g, cap, cur, rfl, hb, hg, hn, hcap, hcs, htk⟩
        · obtain rfl : ms = [] := List.length_eq_zero_iff.1 h0
          have hI := InR.start (n0 := w0.heap.size) (lo := w0.heap.size + 3) (hi := w0.heap.size + 3 + 3) h4 (Nat.le_refl _) (by omega)
          have h7 := h3.1
          clear h3 h6 h0
          gi_wp2_with (first | ((with_reducible refine And.intro ?_ ?_); (exact trivial); refine (InR.call hI fun hl => mdParse_some x (by omega) m HR _ hl).mono ?_; rintro e w ⟨rfl, hI⟩) | ((with_reducible refine in_at_alloc ?_); refine in_new TMd rfl rfl hI _ md_new ?_; intro g2 w hg2 hI) | ((with_reducible refine in_at_store ?_); refine in_st TMd rfl rfl hI rfl rfl (ds := Md.cells _) rfl .head rfl md_info (md_all _) (.inr hg2) ?_; intro w hI; have c4 := hI.st.cellI (.tail .head) 0 (v := .slice none 0 0) rfl) | ((with_reducible refine in_at_load ?_); refine in_ld1 rfl rfl hI rfl (by (first | exact .head | exact .tail .head | exact .tail (.tail .head) | exact .tail (.tail (.tail .head)) | exact .tail (.tail (.tail (.tail .head))) | fail)) mds_scal ?_; (try simp only [Act.put, List.setIfInBounds_toArray, List.set_cons_zero, List.set_cons_succ])) | ((with_reducible refine in_at_load ?_); refine in_ld TMd rfl rfl hI rfl .head Tryz.underlying27 rfl md_info ?_; (try simp only [Act.put, List.setIfInBounds_toArray, List.set_cons_zero, List.set_cons_succ])) | ((with_reducible refine in_at_slice ?_); refine in_lit rfl rfl hI rfl _ TMd (md_lit m) ?_; intro g3 w hg3 hI; (try simp only [Act.put, List.setIfInBounds_toArray, List.set_cons_zero, List.set_cons_succ])) | (gi_at_builtin; refine in_app_md (b := w0.heap.size + 6) rfl rfl rfl (ms := []) (World.ownsRow_nil _ _ _ _) rfl (hI.st.row .head) (by omega) (by have := hI.hh; omega) ?_; intro g' cap' w1 hown' hgrow; have hI := hI.tail.tail.grown hgrow (fun r e => by cases e); have hown2 := own_setRow hown' (w0.heap.size + 2) #[.slice (some ⟨g', 0, none⟩) (0 + 1) cap'] (by omega); clear hown' hgrow; refine in_st1 TMds rfl rfl hI rfl rfl (ds := #[.slice (some ⟨g', 0, none⟩) (0 + 1) cap']) rfl .head (by rfl) mds_size (slice_all _ _ _) (.inl (by omega)) ?_; intro hI))
          exact ⟨hI.keep, hI.span, [] ++ [m], _, HN.out, by simp, hown2, hI.st⟩
        · have hI := InR.start (n0 := w0.heap.size) (lo := w0.heap.size + 3) (hi := w0.heap.size + 3 + 3) (h4.add hg (by omega) (by simp; omega)) (Nat.le_refl _) (by omega)
          have hne : ((ms.length : Int) == 6) = false := by simp; omega
          have h8 : ms.length + 1 ≤ 6 := by omega
          have h31 := h3.1
          clear h3 h6 hg
          gi_wp2_with (first | ((with_reducible refine And.intro ?_ ?_); (exact trivial); refine (InR.call hI fun hl => mdParse_some x (by omega) m HR _ hl).mono ?_; rintro e w ⟨rfl, hI⟩) | ((with_reducible refine in_at_alloc ?_); refine in_new TMd rfl rfl hI _ md_new ?_; intro g2 w hg2 hI) | ((with_reducible refine in_at_store ?_); refine in_st TMd rfl rfl hI rfl rfl (ds := Md.cells _) rfl .head rfl md_info (md_all _) (.inr hg2) ?_; intro w hI; have c4 := hI.st.cellI (.tail (.tail .head)) 0 (v := .slice (some ⟨g, 0, none⟩) ms.length cap) rfl) | ((with_reducible refine in_at_load ?_); refine in_ld1 rfl rfl hI rfl (by (first | exact .head | exact .tail .head | exact .tail (.tail .head) | exact .tail (.tail (.tail .head)) | exact .tail (.tail (.tail (.tail .head))) | fail)) mds_scal ?_; (try simp only [Act.put, List.setIfInBounds_toArray, List.set_cons_zero, List.set_cons_succ])) | ((with_reducible refine in_at_load ?_); refine in_ld TMd rfl rfl hI rfl .head Tryz.underlying27 rfl md_info ?_; (try simp only [Act.put, List.setIfInBounds_toArray, List.set_cons_zero, List.set_cons_succ])) | ((with_reducible refine in_at_slice ?_); refine in_lit rfl rfl hI rfl _ TMd (md_lit m) ?_; intro g3 w hg3 hI; (try simp only [Act.put, List.setIfInBounds_toArray, List.set_cons_zero, List.set_cons_succ])) | (gi_at_builtin; refine in_app_md (b := w0.heap.size + 6) rfl rfl rfl (ms := ms) ⟨h31, .inr ⟨g, cap, cur, rfl, hb, (hI.st.row (.tail (.tail .head))), hn, hcap, hcs, htk⟩⟩ rfl (hI.st.row .head) (by omega) (by have := hI.hh; omega) ?_; intro g' cap' w1 hown' hgrow; have hI := hI.tail.tail.tail.grown hgrow (fun r e => by have e2 : some g = some r := e; cases e2; exact ⟨by omega, by omega, by simp; omega, _, hI.st.row (.tail (.tail .head)), rfl⟩); have hown2 := own_setRow hown' (w0.heap.size + 2) #[.slice (some ⟨g', 0, none⟩) (ms.length + 1) cap'] (by omega); clear hown' hgrow; refine in_st1 TMds rfl rfl hI rfl rfl (ds := #[.slice (some ⟨g', 0, none⟩) (ms.length + 1) cap']) rfl .head (by rfl) mds_size (slice_all _ _ _) (.inl (by omega)) ?_; intro hI))
          exact ⟨hI.keep, hI.span, ms ++ [m], _, HN.out, by simp; omega, by rw [List.length_append]; exact hown2, hI.st⟩
  case done =>
    rintro D W hD ⟨ms, v, h1, h2, h3, h4⟩ hK
    have hp : mlParse s = some ms := by unfold mlParse; exact h1
    have HP := Lib.hid hp
    clear h1 hp
    have hI := InR.start (n0 := w0.heap.size) (lo := w0.heap.size + 3) (hi := w0.heap.size + 3 + 3) h4 (Nat.le_refl _) (by have := (Array.getElem?_eq_some_iff.1 hK).1; omega)
    rcases h3.2 with ⟨rfl, h0⟩ | ⟨g, cap, cur, rfl, hb, hg, hn, hcap, hcs, htk⟩
    · exfalso
      have := (mlParse_back HP.out).1
      exact this (List.length_eq_zero_iff.1 h0)
    · gi_wp2_with (first | ((with_reducible refine in_at_load ?_); refine in_ld1 rfl rfl hI rfl .head mds_scal ?_; (try simp only [Act.put, List.setIfInBounds_toArray, List.set_cons_zero, List.set_cons_succ])) | ((with_reducible refine in_at_store ?_); refine in_st1 TMds rfl rfl hI rfl rfl (ds := #[.slice (some ⟨g, 0, none⟩) ms.length cap]) rfl (.tail (.tail .head)) (by rfl) mds_size (slice_all _ _ _) (.inl (by omega)) ?_; intro hI) | ((with_reducible refine in_at_store ?_); refine in_st1 32 rfl rfl hI rfl rfl (ds := #[.int .i64 0]) rfl (.tail .head) (by rfl) errno_size zero_all (.inl (by omega)) ?_; intro hI))
      simp only [Act.put]
      have hK2 : ((W.setRow w0.heap.size #[.slice (some ⟨g, 0, none⟩) ms.length cap]).setRow (w0.heap.size + 1) #[.int .i64 0]).heap[D]? = some (.deferred (some [])) := (setRow_other _ _ _ _ (by omega)).trans ((setRow_other _ _ _ _ (by omega)).trans hK)
      have h3' := own_setRow (own_setRow h3 w0.heap.size #[.slice (some ⟨g, 0, none⟩) ms.length cap] (by omega)) (w0.heap.size + 1) #[.int .i64 0] (by omega)
      generalize (W.setRow w0.heap.size #[.slice (some ⟨g, 0, none⟩) ms.length cap]).setRow (w0.heap.size + 1) #[.int .i64 0] = W' at *
      refine ⟨by simp, .inl ⟨_, _, rfl, run_takeDeferred hK2, ?_⟩⟩
      have h5 := hI.st.grown (grownBy_putObj' W' D (.deferred none)) (fun r e => by cases e; exact ⟨by omega, by simp; omega⟩)
      have c2 := h5.cellI (.tail (.tail .head)) 0 (v := .slice (some ⟨g, 0, none⟩) ms.length cap) rfl
      have c3 := h5.cellI (.tail .head) 0 (v := .int .i64 0) rfl
      refine ⟨.tuple #[.slice (some ⟨g, 0, none⟩) ms.length cap, .int .i64 0], ?_, h5.below, .inr ⟨ms, _, HP.out, rfl, own_le (by omega) (ownsRow_putObj h3' _ hK2 rfl)⟩⟩
      simp [results, Tryz.f24, go_sem, c2, c3]
  case stop =>
    rintro D pre W hD ⟨h1, v, h4⟩ hK
    have HX := Lib.hid h1
    clear h1
    gi_wp2
    refine ⟨by simp, .inl ⟨_, _, rfl, run_takeDeferred hK, ?_⟩⟩
    have h5 := h4.grown (grownBy_putObj' W D (.deferred none)) (fun r e => by cases e; exact ⟨by omega, by simp; omega⟩)
    have c2 := h5.cellI (.tail (.tail .head)) 0 (v := .slice none 0 0) rfl
    have c3 := h5.cellI (.tail .head) 0 (v := .int .i64 3) rfl
    refine ⟨.tuple #[.slice none 0 0, .int .i64 3], ?_, h5.below, .inl ⟨HX.out, rfl⟩⟩
    simp [results, Tryz.f24, go_sem, c2, c3]
end Go.Proofs.YtakgfbcmkhcdkaaGreatDoor
