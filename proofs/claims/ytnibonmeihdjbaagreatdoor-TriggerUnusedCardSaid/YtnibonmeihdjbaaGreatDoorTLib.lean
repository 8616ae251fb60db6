/- Walks: strings.Cut at a space, TrimPrefix, TrimSuffix in chapter 18's words; a number stored in a row. Conditions: LaidT. -/
import Derived.Test.YtnibonmeihdjbaaGreatDoorTText
namespace Go.Proofs.YtnibonmeihdjbaaGreatDoor
set_option linter.all false
open Go.ChangeShapes Go.WideShapes Go.RowKit
theorem wpList_build1 {P : Program} {ops : Array Oper} {rest : List Oper} {o : Oper} {a : Act} {w : World} {Q : Exit → Act → World → Prop} (hgd : o.guard = none) (ty : TypeId) (i : Nat) (x : Operand) (ho : o.op = .build ty #[(i, x)])
    (p v : Value) (hx : a.eval x = p) (hv : (Instr.build ty #[(i, p)]).run P w = .ok v w) (h : wpList P ops Q rest (a.put o.dst v) w) : wpList P ops Q (o :: rest) a w :=
  wpList_plain hgd fun _ hK => by
    unfold Oper.wp execOp
    simp only [ho, List.map_toArray, List.map_cons, List.map_nil, hx, Sem.run_bind, hv, Sem.run_pure, Result.andThen_ok]
    exact hK _ _ h
theorem wpList_store_int {P : Program} {ops : Array Oper} {rest : List Oper} {o : Oper} {a : Act} {w : World} {Q : Exit → Act → World → Prop} (hgd : o.guard = none) (ty : TypeId) (x y : Operand) (ho : o.op = .store ty x y)
    (g off : Nat) (t : TypeId) (cs new : Array Value) (kd : IntKind) (n : Int) (hx : a.eval x = .pointer (some ⟨g, off, none⟩)) (hy : a.eval y = .int kd n) (hg : w.heap[g]? = some (.cells cs t (0, 0))) (hfit : off + 1 ≤ cs.size)
    (hnew : cs.toList.take off ++ [Value.int kd n] ++ cs.toList.drop (off + 1) = new.toList) (hi : (P.info? ty).map (·.size) = some 1)
    (h : wpList P ops Q rest (a.put o.dst undef) (w.setRow g new)) : wpList P ops Q (o :: rest) a w :=
  wpList_plain hgd fun _ hK => by
    have hst := run_storeCells_at P g off t [.int kd n] 0 cs w hg (by simpa using hfit) (fun v hv => by rw [List.mem_singleton.1 hv]; rfl)
    have e : (cs.toList.take (off + 0) ++ [Value.int kd n] ++ cs.toList.drop (off + 0 + [Value.int kd n].length)).toArray = new := by
      rw [Nat.add_zero, List.length_singleton, hnew]
    rw [e] at hst
    have hs : (storeVar ty ⟨g, off, none⟩ (.int kd n)).run P w = .ok () (w.setRow g new) := by
      cases hq : P.info? ty with
      | none => simp [hq] at hi
      | some i =>
        have hs : i.size = 1 := by simpa [hq] using hi
        simp [storeVar, sizeOf, typeInfo, hq, Value.cells, hs, hst]
    unfold Oper.wp execOp
    simp only [ho, hx, hy, Instr.storeAt, Instr.sureAddr, Sem.run_bind, Sem.run_pure, Result.andThen_ok, hs]
    exact hK _ _ h
theorem infoInt1 : (Tryz.prog.info? 3).map (·.size) = some 1 := by kernel_rfl
theorem build_k (k : Int) (w : World) : (Instr.build TTg #[(0, .int .i64 k)]).run Tryz.prog w = .ok (.agg (Tg.cells ⟨k, 0, zeroF⟩)) w := by kernel_rfl
theorem build_kw (k who : Int) (w : World) : (Instr.build TTg #[(0, .int .i64 k), (1, .int .i64 who)]).run Tryz.prog w = .ok (.agg (Tg.cells ⟨k, who, zeroF⟩)) w := by kernel_rfl
theorem cutSp_is (s : ByteArray) (v q : Str) (h : Hid (cutAt 32 (L s) = (v, q))) (hs : s.size < 4294967281) (w : World) (hl : LaidT w) :
    Calls Tryz.prog 25 #[.string s, .string ⟨#[32]⟩] w fun e w' => (∃ b, e = .returned (.tuple #[.string (B v), .string (B q), .bool b])) ∧ Below w.heap.size w w' :=
  (Tryz.strings_Cut_shaped s ⟨#[32]⟩ w hl.base.shaped hs).mono fun e w' ⟨he, n, hw⟩ => by
    obtain ⟨h1, h2⟩ := cut_one 32 (L s)
    rw [h.out] at h1 h2
    refine ⟨⟨(Lib.cut s.data.toList (⟨#[32]⟩ : ByteArray).data.toList).2.2, he.trans ?_⟩, hw ▸ below_drewN (Below.refl _ _) n⟩
    rw [show (⟨#[32]⟩ : ByteArray).data.toList = [32] from rfl, show s.data.toList = L s from rfl, h1, h2]; rfl
theorem trimPre_is (s p : ByteArray) (w : World) (pl : Str) (hp : L p = pl) (r : Str) (h : Hid (Lib.trimPrefix (L s) pl = r)) :
    Calls Tryz.prog 28 #[.string s, .string p] w fun e w' => e = .returned (.string (B r)) ∧ w = w' := by
  subst hp
  exact (Tryz.strings_TrimPrefix s p w).mono fun _ _ h' => ⟨h'.1.trans (by rw [← h.out]; rfl), h'.2.symm⟩
theorem trimSuf_is (s p : ByteArray) (w : World) (hs : s.size < 1000000000) (pl : Str) (hp : L p = pl) (r : Str) (h : Hid (Lib.trimSuffix (L s) pl = r)) :
    Calls Tryz.prog 27 #[.string s, .string p] w fun e w' => e = .returned (.string (B r)) ∧ w = w' := by
  subst hp
  exact (Tryz.strings_TrimSuffix s p w (by omega)).mono fun _ _ h' => ⟨h'.1.trans (by rw [← h.out]; rfl), h'.2.symm⟩
/-- The result's row stands, empty; nothing older has turned. -/
def TSt (w wr : World) : Prop := wr.heap[w.heap.size]? = some (.cells zeroT.cells TTg) ∧ Below w.heap.size w wr
theorem TSt.below {w w1 w2 : World} (h : TSt w w1) (hb : Below w1.heap.size w1 w2) : TSt w w2 := ⟨blk_below2 hb h.1, below_two h.2 hb⟩
theorem TSt.setRow {w w1 : World} (h : TSt w w1) {g : Nat} (hg : w.heap.size < g) (cs : Array Value) : TSt w (w1.setRow g cs) :=
  ⟨(setRow_other w1 g w.heap.size cs (by omega)).trans h.1, below_setRow h.2 (Nat.le_of_lt hg) cs⟩
theorem verb_apart : ∀ j k : Fin 15, wd verbT j = wd verbT k → j = k := by decide +kernel
def whoAcc (n : Str) : Nat → Int
  | 0 => 0
  | j + 1 => if wd pwT j = n then (j : Int) else whoAcc n j
theorem whoAcc_three (n : Str) : whoAcc n 3 = whoIx n := by
  have e3 : whoAcc n 3 = if wd pwT 2 = n then ((2 : Nat) : Int) else if wd pwT 1 = n then ((1 : Nat) : Int) else if wd pwT 0 = n then ((0 : Nat) : Int) else 0 := rfl
  have c2 : (wd pwT 2 = n) = (n = wd pwT 2) := propext ⟨Eq.symm, Eq.symm⟩
  have c1 : (wd pwT 1 = n) = (n = wd pwT 1) := propext ⟨Eq.symm, Eq.symm⟩
  rw [e3]
  unfold whoIx
  simp only [c2, c1]
  split
  · rfl
  split
  · rfl
  split <;> rfl
def tgRet (o : Option Tg) : Value := match o with | some r => .tuple #[.agg r.cells, .int .i64 0] | none => .tuple #[.agg zeroT.cells, .int .i64 3]
end Go.Proofs.YtnibonmeihdjbaaGreatDoor
