/- Plain words on memory: a block of one cell that holds a slice over texts. Over any program. Conditions: none. -/
import Derived.Test.YthpleohkngfdfaaDoorPush
import Derived.OneCell
namespace Go.Proofs.YthpleohkngfdfaaDoor
set_option linter.all false
open Go.ChangeShapes Go.WideShapes Go.RowKit
theorem wpList_text_push2 {P : Program} {ops : Array Oper} {rest : List Oper} {o : Oper} {a : Act} {Q : Exit → Act → World → Prop} {w : World} (hgd : o.guard = none) (s x : Operand) (t : TypeId)
    (ho : o.op = .call { callee := .builtin .append, args := #[s, x], argTypes := #[t, t] }) (ht : P.underlying t = some (.slice 9))
    (hinf : (P.info? 9).map (fun i => (i.zero, i.size, i.bytes)) = some (some (.string ByteArray.empty), 1, 16))
    {base : Nat} {l : List Str} {v : Value} {n : ByteArray} (hs : a.eval s = v) (hx : a.eval x = .slice (some ⟨w.heap.size, 0, none⟩) 1 1) (hown : Texts w base l v)
    (hlen : l.length < 1000000000) (hb : base ≤ w.heap.size)
    (h : ∀ v' w', Texts w' base (l ++ [L n]) v' → Below base w w' → (∀ k, k < w.heap.size → some k ≠ v.ownBlock → w'.heap[k]? = w.heap[k]?) → wpList P ops Q rest (a.put o.dst v') w') :
    wpList P ops Q (o :: rest) a (w.alloc (.cells #[.string n] 9)) := by
  obtain ⟨i0, hi, hz0, hz1, hz2⟩ := info_parts hinf
  refine wpList_append_own _ hgd s x t ho base 9 i0 (.string ByteArray.empty) 1 16 ht hi hz0 hz1 hz2 rfl (by decide) v l.length (strCells l) hs (hown.alloc _) ⟨w.heap.size, 0, none⟩ 1 1 [.string n] hx rfl (cell_one_new _ _ _) ?_ (by unfold maxLen; omega) (by omega) (by simp; omega) ?_
  · intro u hu; simp at hu; subst hu; rfl
  · intro v' w' h1 h2 _
    refine h v' w' ?_ (((Below.refl base w).alloc hb _).grown h2 (by simp; omega) (fun g hg => (hown.lt g hg).1)) (fun k hk hne => (h2.block k (by simp; omega) hne).trans (Below.heap_alloc w _ k hk))
    unfold Texts
    rw [strCells_snoc] at h1
    simpa using h1
/-- Block g, of the call's own (from block b on), holds one slice over the texts l. -/
def Wr (t : Nat) (w : World) (b g : Nat) (l : List Str) : Prop := ∃ v, w.heap[g]? = some (.cells #[v] t (0, 0)) ∧ b ≤ g ∧ Texts w b l v
theorem Wr.below {t : Nat} {w w' : World} {b g : Nat} {l : List Str} (h : Wr t w b g l) (hb : Below w.heap.size w w') : Wr t w' b g l := by
  obtain ⟨v, h1, h2, h3⟩ := h
  exact ⟨v, (hb.block g (Array.getElem?_eq_some_iff.1 h1).1).trans h1, h2, h3.below hb⟩
theorem texts_block {w : World} {b : Nat} {l : List Str} {v : Value} (h : Texts w b l v) {k : Nat} (hk : v.ownBlock = some k) : ∃ cs, w.heap[k]? = some (.cells cs 9 (0, 0)) := by
  rcases h.2 with ⟨rfl, _⟩ | ⟨g, cap, cur, rfl, _, hg, _⟩
  · cases hk
  · simp [Value.ownBlock] at hk
    subst hk; exact ⟨cur, hg⟩
theorem Wr.lt {t : Nat} {w : World} {b g : Nat} {l : List Str} (h : Wr t w b g l) : g < w.heap.size ∧ b ≤ g := by
  obtain ⟨v, h1, h2, _⟩ := h
  exact ⟨(Array.getElem?_eq_some_iff.1 h1).1, h2⟩
theorem texts_setCell {w : World} {b g : Nat} {t : Nat} {l : List Str} {v u : Value} {x : Value} (ht : t ≠ 9) (hg : w.heap[g]? = some (.cells #[x] t (0, 0))) (h : Texts w b l v) : Texts (w.setCell ⟨g, 0, none⟩ u) b l v := by
  obtain ⟨h1, h2⟩ := h
  refine ⟨h1, h2.imp id fun ⟨k, cap, cur, hv, hk, hh, r⟩ => ⟨k, cap, cur, hv, hk, ?_, r⟩⟩
  rw [Below.heap_setCell _ _ _ _ (fun e => by subst e; rw [hg] at hh; injection hh with hh; injection hh with _ h9 _; exact ht h9)]; exact hh
theorem Wr.stored {t : Nat} {w : World} {b g : Nat} {l : List Str} {v x : Value} (ht : t ≠ 9) (hg : w.heap[g]? = some (.cells #[x] t (0, 0))) (hb : b ≤ g) (h : Texts w b l v) : Wr t (w.setCell ⟨g, 0, none⟩ v) b g l := by
  refine ⟨v, ?_, hb, texts_setCell ht hg h⟩
  simp [World.setCell, Array.getElem?_modify, hg]
theorem one_cell {w : World} {g t : Nat} {x : Value} (hg : w.heap[g]? = some (.cells #[x] t (0, 0))) : w.cell? ⟨g, 0, none⟩ = some x := by rw [cell_of_row w g 0 _ t _ hg]; rfl
theorem one_free {w : World} {g t : Nat} {x : Value} (hg : w.heap[g]? = some (.cells #[x] t (0, 0))) : w.frozen? ⟨g, 0, none⟩ = false := by simp [World.frozen?, hg]
/-- No block has gone; what is no row of texts, and not block g, is as it was. -/
def Keep (g : Nat) (w w' : World) : Prop := w.heap.size ≤ w'.heap.size ∧ ∀ k o, w.heap[k]? = some o → k ≠ g → (∀ cs fr, o ≠ .cells cs 9 fr) → w'.heap[k]? = some o
theorem Keep.refl (g : Nat) (w : World) : Keep g w w := ⟨Nat.le_refl _, fun _ _ h _ _ => h⟩
theorem Keep.trans {g : Nat} {a b c : World} (h : Keep g a b) (k : Keep g b c) : Keep g a c := ⟨Nat.le_trans h.1 k.1, fun i o ho hi hn => k.2 i o (h.2 i o ho hi hn) hi hn⟩
theorem Keep.of_below {g : Nat} {w w' : World} (h : Below w.heap.size w w') : Keep g w w' := ⟨h.size, fun k o ho _ _ => (h.block k (Array.getElem?_eq_some_iff.1 ho).1).trans ho⟩
theorem Nums.keep {g t : Nat} {w w' : World} {base : Nat} {l : List Nat} {v x : Value} (h : Nums w base l v) (hk : Keep g w w') (hg : w.heap[g]? = some (.cells #[x] t (0, 0))) (ht : t ≠ 3) : Nums w' base l v := by
  obtain ⟨h1, h2⟩ := h
  refine ⟨h1, h2.imp id fun ⟨k, cap, cur, hv, hb, hh, r⟩ => ⟨k, cap, cur, hv, hb, ?_, r⟩⟩
  exact hk.2 k _ hh (fun e => by subst e; rw [hg] at hh; injection hh with hh; injection hh with _ h9 _; exact ht h9) (fun cs fr e => by injection e with _ h9 _; exact absurd h9 (by decide))
theorem Wr.block {t : Nat} {w : World} {b g : Nat} {l : List Str} (h : Wr t w b g l) : ∃ v, w.heap[g]? = some (.cells #[v] t (0, 0)) := by
  obtain ⟨v, h1, _⟩ := h; exact ⟨v, h1⟩
/-- Append to the slice that block g holds: what a store back into that block then gives. -/
theorem wpList_wr_push {P : Program} {ops : Array Oper} {rest : List Oper} {o : Oper} {a : Act} {Q : Exit → Act → World → Prop} {w : World} (hgd : o.guard = none) (s x : Operand) (t : TypeId)
    (ho : o.op = .call { callee := .builtin .append, args := #[s, x], argTypes := #[t, t] }) (ht : P.underlying t = some (.slice 9))
    (hinf : (P.info? 9).map (fun i => (i.zero, i.size, i.bytes)) = some (some (.string ByteArray.empty), 1, 16))
    {base g tw : Nat} {l : List Str} {v : Value} {n : ByteArray} (htw : tw ≠ 9) (hs : a.eval s = v) (hx : a.eval x = .slice (some ⟨w.heap.size, 0, none⟩) 1 1)
    (hg : Hid (w.heap[g]? = some (.cells #[v] tw (0, 0)))) (hbg : base ≤ g) (hown : Texts w base l v)
    (hlen : l.length < 1000000000)
    (h : ∀ A2 c2 w', w'.cell? ⟨g, 0, none⟩ = some v → w'.frozen? ⟨g, 0, none⟩ = false →
      Hid (Wr tw (w'.setCell ⟨g, 0, none⟩ (.slice A2 (l.length + 1) c2)) base g (l ++ [L n]) ∧ Below base w (w'.setCell ⟨g, 0, none⟩ (.slice A2 (l.length + 1) c2)) ∧ Keep g w (w'.setCell ⟨g, 0, none⟩ (.slice A2 (l.length + 1) c2))) →
      wpList P ops Q rest (a.put o.dst (.slice A2 (l.length + 1) c2)) w') :
    wpList P ops Q (o :: rest) a (w.alloc (.cells #[.string n] 9)) := by
  have hg := hg.out
  have hgl : g < w.heap.size := (Array.getElem?_eq_some_iff.1 hg).1
  refine wpList_text_push2 hgd s x t ho ht hinf hs hx hown hlen (by omega) ?_
  intro v' w2 hown2 hb2 hk2
  obtain ⟨A2, c2, hv2, hcc2⟩ := hown2.form
  rw [show (l ++ [L n]).length = l.length + 1 by simp] at hv2
  subst hv2
  have hg2 : w2.heap[g]? = some (.cells #[v] tw (0, 0)) := (hk2 g hgl (fun e => by
    obtain ⟨cs, hcs⟩ := texts_block hown e.symm
    rw [hg] at hcs; injection hcs with hcs; injection hcs with _ h9 _; exact htw h9)).trans hg
  refine h A2 c2 w2 (one_cell hg2) (one_free hg2) (Lib.hid ⟨Wr.stored htw hg2 hbg hown2, hb2.setCell hbg _, ?_⟩)
  refine ⟨by simp [World.setCell]; exact hb2.size, fun k o ho hkg hn => ?_⟩
  rw [Below.heap_setCell _ _ _ _ hkg]
  refine (hk2 k (Array.getElem?_eq_some_iff.1 ho).1 (fun e => ?_)).trans ho
  obtain ⟨cs, hcs⟩ := texts_block hown e.symm
  rw [ho] at hcs; injection hcs with hcs; exact hn _ _ hcs
/-- A word is added, unless it is empty. -/
def addW (l : List Str) (s : Str) : List Str := if s = [] then l else l ++ [s]
theorem addW_len (l : List Str) (s : Str) : (addW l s).length ≤ l.length + 1 := by unfold addW; split <;> simp
end Go.Proofs.YthpleohkngfdfaaDoor
