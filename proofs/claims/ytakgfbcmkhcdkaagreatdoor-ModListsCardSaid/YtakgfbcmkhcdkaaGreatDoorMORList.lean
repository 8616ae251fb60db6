/- Walks: the reference of chapter 15: ParseList. Conditions: Laid; the text is shorter than a hundred million bytes. Lists of modifications in memory: a row of the call's own holds them; what ParseList and ListText do with them. Conditions: Laid. -/
import Derived.Test.YtakgfbcmkhcdkaaGreatDoorMOLists
import Derived.Test.YtakgfbcmkhcdkaaGreatDoorMORParse
namespace Go.Proofs.YtakgfbcmkhcdkaaGreatDoor
set_option linter.all false
open Go.ChangeShapes Go.WideShapes Go.RowKit
attribute [local irreducible] wpList Code.wp Calls
theorem wpList_lit {ops : Array Oper} {rest : List Oper} {o : Oper} {a : Act} {w w0 : World} {Q : Exit → Act → World → Prop} {L : World → Prop} {rows : List Row} {T : Nat} {x : Operand} (ho : o.op = .buildSlice T 1 #[(0, x)]) (hS : St L w0 rows w) (hw : Region.wanted o (yielded ops a.tmps) = true) {v : Value} (hx : a.eval x = v) (cs : Array Value) (T' : Nat)
    (hr : ∀ w, (Instr.buildSlice T 1 #[(0, v)]).run Tryz.prog w = .ok (.slice (some ⟨w.heap.size, 0, none⟩) 1 1) (w.alloc (.cells cs T')))
    (h : ∀ g w', St L w0 ((g, cs, T') :: rows) w' → wpList Tryz.prog ops Q rest (a.put o.dst (.slice (some ⟨g, 0, none⟩) 1 1)) w') : wpList Tryz.prog ops Q (o :: rest) a w :=
  wpList_one hw fun K hK => by
    unfold Oper.wp execOp
    simp [ho, hx, Sem.run_bind, hr, Result.andThen]
    exact hK _ _ (h _ _ (hS.alloc cs T'))
theorem at_slice1 {ops : Array Oper} {rest : List Oper} {a : Act} {w : World} {Q : Exit → Act → World → Prop} {dst : Option Tmp} {ty : TypeId} {pos : String} {af : Array Edge} {gd : Option (Nat × Bool)} {T k : Nat} {ps : Array (Nat × Operand)} (h : wpList Tryz.prog ops Q ((⟨dst, .buildSlice T k ps, ty, pos, af, gd⟩ : Oper) :: rest) a w) : wpList Tryz.prog ops Q ((⟨dst, .buildSlice T k ps, ty, pos, af, gd⟩ : Oper) :: rest) a w := h
theorem wpList_app_md {w : World} {ops : Array Oper} {rest : List Oper} {o : Oper} {a : Act} {Q : Exit → Act → World → Prop} {ms : List Md} {r : Md} {b : Nat} {v : Value} {x y : Operand} (ho : o.op = .call { callee := .builtin .append, args := #[x, y], argTypes := #[TMds, TMds] }) (hg : o.guard = none) (hs : a.eval x = v) (own : w.ownsRow b TMd 20 v ms.length (mdFlat ms))
    {g3 : Nat} (hx : a.eval y = .slice (some ⟨g3, 0, none⟩) 1 1) (hr : w.heap[g3]? = some (.cells r.cells TMd (0, 0))) (h6 : ms.length ≤ 1000000) (hb : b ≤ w.heap.size)
    (h : ∀ g' cap' w1, w1.ownsRow b TMd 20 (.slice (some ⟨g', 0, none⟩) (ms.length + 1) cap') (ms.length + 1) (mdFlat (ms ++ [r])) → Below b w w1 → wpList Tryz.prog ops Q rest (a.put o.dst (.slice (some ⟨g', 0, none⟩) (ms.length + 1) cap')) w1) : wpList Tryz.prog ops Q (o :: rest) a w := by
  obtain ⟨i0, hi0, hz0, hz1, hz2⟩ := info_parts md_full
  refine wpList_append_own w hg x y TMds ho b TMd i0 (.agg zeroM.cells) 20 176 Tryz.underlying51 hi0 hz0 hz1 hz2 rfl (by decide) v ms.length (mdFlat ms) hs own ⟨g3, 0, none⟩ 1 1 r.cells.toList hx rfl (row_add hr) (md_ones r) (by unfold maxLen; omega) (by omega) hb ?_
  intro v' w1 hown hgrow _
  obtain ⟨g', cap', rfl⟩ := ownsRow_succ hown
  exact h g' cap' w1 (by rw [mdFlat_snoc]; exact hown) ((Below.refl b w).grown hgrow hb (fun k hk => (own.lt k hk).1))
theorem csA_end (cur : Str) : csAux false cur [] = [cur] := by rw [csAux]
theorem csA_skip (cur r : Str) (c : UInt8) : csAux true cur (c :: r) = csAux false cur r := by rw [csAux]
theorem csA_cut (cur r : Str) (h : r.head? = some 32) : csAux false cur (44 :: r) = cur :: csAux true [] r := by rw [csAux, if_pos ⟨rfl, h⟩]
theorem drop_at {s : Str} {k : Nat} (h : k < s.length) : s.drop k = s[k] :: s.drop (k + 1) := List.drop_eq_getElem_cons h
theorem byt_at' {s : Str} {k : Nat} (h : k < s.length) : byt s k = (s[k]).toNat := by simp [byt, List.getD, h]
/-- What is known between two rounds: the parts that have been read, where the next begins. -/
def RL (s : Str) (k g : Nat) (ms : List Md) : Prop :=
  (∃ pre, csplit s = pre ∧ mlRun [] pre = some ms ∧ k = s.length + 1) ∨
  (∃ pre, k ≤ s.length ∧ csplit s = pre ++ csAux false ((s.take k).drop g) (s.drop k) ∧ g ≤ k ∧ mlRun [] pre = some ms) ∨
  (∃ pre, k < s.length ∧ byt s k = 32 ∧ csplit s = pre ++ csAux true [] (s.drop k) ∧ g = k + 1 ∧ mlRun [] pre = some ms)
theorem RL.start (s : Str) : RL s 0 0 [] := .inr (.inl ⟨[], by omega, by simp [csplit], by omega, rfl⟩)
theorem RL.out {s : Str} {g : Nat} {ms : List Md} (h : RL s (s.length + 1) g ms) : mlParse s = some ms := by
  rcases h with ⟨pre, h1, h2, _⟩ | ⟨_, h, _⟩ | ⟨_, h, _⟩
  · unfold mlParse; rw [h1]; exact h2
  · omega
  · omega
theorem RL.skip {s : Str} {k : Nat} {ms : List Md} (h : RL s k (k + 1) ms) (hk : k ≤ s.length) : k < s.length ∧ byt s k = 32 ∧ RL s (k + 1) (k + 1) ms := by
  rcases h with ⟨pre, h1, h2, _⟩ | ⟨pre, h, _, h2, _⟩ | ⟨pre, h1, h2, h3, _, h4⟩
  · omega
  · omega
  · refine ⟨h1, h2, .inr (.inl ⟨pre, h1, ?_, by omega, h4⟩)⟩
    have e : (s.take (k + 1)).drop (k + 1) = [] := List.drop_eq_nil_of_le (by rw [List.length_take]; omega)
    rw [h3, drop_at h1, csA_skip, e]
theorem take_dropS {s : Str} {k g : Nat} (hg : g ≤ k) (hk : k < s.length) : (s.take (k + 1)).drop g = (s.take k).drop g ++ [s[k]] := by
  rw [List.take_succ, List.getElem?_eq_getElem hk, List.drop_append_of_le_length (by rw [List.length_take]; omega)]; rfl
theorem RL.move {s : Str} {k g : Nat} {ms : List Md} (h : RL s k g ms) (hg : g ≤ k) (hk : k < s.length) (hc : ¬ (byt s k = 44 ∧ k + 1 < s.length ∧ byt s (k + 1) = 32)) : RL s (k + 1) g ms := by
  rcases h with ⟨pre, h1, h2, _⟩ | ⟨pre, h1, h2, _, h4⟩ | ⟨pre, h1, h2, h3, _, h4⟩
  · omega
  · refine .inr (.inl ⟨pre, hk, ?_, by omega, h4⟩)
    rw [h2, drop_at hk, csAux_move _ _ _ ?_, take_dropS hg hk]
    rintro ⟨e1, e2⟩
    apply hc
    refine ⟨by rw [byt_at' hk, e1]; rfl, ?_⟩
    cases hd : s.drop (k + 1) with
    | nil => rw [hd] at e2; cases e2
    | cons x r =>
      have hl : k + 1 < s.length := by
        rcases Nat.lt_or_ge (k + 1) s.length with h | h
        · exact h
        · rw [List.drop_eq_nil_of_le h] at hd; cases hd
      refine ⟨hl, ?_⟩
      rw [drop_at hl] at e2
      rw [byt_at' hl, Option.some.inj e2]; rfl
  · omega
/-- A part is cut off: what its reading says of the whole. -/
theorem RL.cut {s : Str} {k g : Nat} {ms : List Md} (h : RL s k g ms) (hg : g ≤ k) (hk : k ≤ s.length) (hc : k = s.length ∨ (byt s k = 44 ∧ k + 1 < s.length ∧ byt s (k + 1) = 32)) :
    (mdParse ((s.take k).drop g) = none ∨ ms.length = 6 → mlParse s = none) ∧ (∀ m, mdParse ((s.take k).drop g) = some m → ¬ ms.length = 6 → (k = s.length → RL s (k + 1) (k + 2) (ms ++ [m])) ∧ (k < s.length → RL s (k + 1) (k + 2) (ms ++ [m]))) := by
  rcases h with ⟨pre, h1, h2, _⟩ | ⟨pre, h1, h2, _, h4⟩ | ⟨pre, h1, h2, h3, _, h4⟩
  · omega
  · obtain ⟨rest, hr⟩ : ∃ rest, csplit s = pre ++ ((s.take k).drop g) :: rest ∧ (k = s.length → rest = []) ∧ (k < s.length → rest = csAux true [] (s.drop (k + 1))) := by
      rcases hc with rfl | ⟨c1, c2, c3⟩
      · refine ⟨[], ?_, fun _ => rfl, fun h => by omega⟩
        rw [h2, List.drop_length, csA_end]
      · have hk' : k < s.length := by omega
        refine ⟨csAux true [] (s.drop (k + 1)), ?_, fun h => by omega, fun _ => rfl⟩
        have e1 : s[k] = 44 := by rw [byt_at' hk'] at c1; exact UInt8.toNat_inj.1 c1
        have e2 : s[k + 1] = 32 := by rw [byt_at' c2] at c3; exact UInt8.toNat_inj.1 c3
        rw [h2, drop_at hk', e1, csA_cut _ _ (by rw [drop_at c2, e2]; rfl)]
    obtain ⟨hr, hr1, hr2⟩ := hr
    refine ⟨fun hb => ?_, fun m hm h6 => ?_⟩
    · unfold mlParse
      rw [hr, mlRun_app pre [] ms _ h4]
      exact mlRun_bad ms _ rest hb
    · have hrun : mlRun [] (pre ++ [(s.take k).drop g]) = some (ms ++ [m]) := by rw [mlRun_app pre [] ms _ h4]; exact mlRun_one ms _ m hm h6
      refine ⟨fun e => .inl ⟨_, ?_, hrun, by omega⟩, fun h => ?_⟩
      · rw [hr, hr1 e]
      · rcases hc with e | ⟨c1, c2, c3⟩
        · omega
        · exact .inr (.inr ⟨_, c2, c3, by rw [hr, hr2 h, List.append_assoc]; rfl, rfl, hrun⟩)
  · omega
theorem r15GuessM_is (s : Str) (G : Md) (h : Hid (guessR s = G)) (hs : s.length < 100000000) (w : World) (hl : Laid w) : Calls Tryz.prog 47 #[.string (B s)] w fun e w' => e = .returned (.agg G.cells) ∧ Below w.heap.size w w' :=
  (r15Guess_any s hs w hl).mono fun e w' h' => ⟨by rw [h'.1, h.out], h'.2⟩
set_option maxRecDepth 100000 in
set_option maxHeartbeats 2000000 in
theorem r15ParseM_at (s : Str) (hs : s.length < 100000000) (G : Md) (HG : Hid (guessR s = G)) (T : Str) (HT : Hid (mdText G = T)) (R : Option Md) (HR : Hid ((if s = [] then none else if T = s then some G else none) = R)) (w : World) (hl : Laid w) :
    Calls Tryz.prog 19 #[.string (B s)] w fun e w' => e = .returned (mdRet R) ∧ Below w.heap.size w w' := by
  have hS := St.start hl keepsL
  by_cases h0 : s = []
  · obtain rfl : R = none := by rw [← HR.out, if_pos h0]
    subst h0
    clear HR
    go_enter Tryz.func19, Tryz.ntmps19
    go_wp2_with (first | (go_at_call 47; (with_reducible refine (St.call hS fun hl => r15GuessM_is _ _ HG hs _ hl).mono ?_); rintro e w ⟨rfl, hS⟩) | ((with_reducible refine at_guard ?_); (first | (refine wpList_pass rfl ?_)); (try simp only [Act.put, List.setIfInBounds_toArray, List.set_cons_zero, List.set_cons_succ])) | ((with_reducible refine at_alloc ?_); (first | (refine wpList_new 27 rfl hS rfl _ md_new ?_; intro g w hS)); (try simp only [Act.put, List.setIfInBounds_toArray, List.set_cons_zero, List.set_cons_succ])) | ((with_reducible refine md_shape_ ?_); refine md_bld_ rfl ?_; (try simp only [Act.put, List.setIfInBounds_toArray, List.set_cons_zero, List.set_cons_succ])) | ((with_reducible refine at_store ?_); (first | (refine md_stw rfl hS rfl rfl rfl (by first | exact .head | exact .tail .head | exact .tail (.tail .head) | exact .tail (.tail (.tail .head)) | exact .tail (.tail (.tail (.tail .head))) | fail) ?_; intro w hS)); (try simp only [Act.put, List.setIfInBounds_toArray, List.set_cons_zero, List.set_cons_succ])))
    all_goals (refine md_res2 hS rfl rfl (by (first | exact .head | exact .tail .head | exact .tail (.tail .head) | exact .tail (.tail (.tail .head)) | exact .tail (.tail (.tail (.tail .head))) | fail)) rfl rfl (fun hb => ⟨rfl, hb⟩))
  · have h1 : (s == []) = false := by simpa using h0
    by_cases hx : T = s
    · subst hx
      obtain rfl : R = some G := by rw [← HR.out, if_neg h0, if_pos rfl]
      clear HR h0
      have ht : (T == T) = true := by simp
      go_enter Tryz.func19, Tryz.ntmps19
      go_wp2_with (first | (go_at_call 47; (with_reducible refine (St.call hS fun hl => r15GuessM_is _ _ HG hs _ hl).mono ?_); rintro e w ⟨rfl, hS⟩) | (go_at_call 15; (with_reducible refine (St.call hS fun hl => r15Text_is _ _ HT _ hl).mono ?_); rintro e w ⟨rfl, hS⟩) | ((with_reducible refine at_alloc ?_); (first | (refine wpList_new 27 rfl hS rfl _ md_new ?_; intro g w hS)); (try simp only [Act.put, List.setIfInBounds_toArray, List.set_cons_zero, List.set_cons_succ])) | ((with_reducible refine at_load ?_); (first | (refine md_ldw rfl hS rfl rfl (by (first | exact .head | exact .tail .head | exact .tail (.tail .head) | exact .tail (.tail (.tail .head)) | exact .tail (.tail (.tail (.tail .head))) | fail)) ?_)); (try simp only [Act.put, List.setIfInBounds_toArray, List.set_cons_zero, List.set_cons_succ])) | ((with_reducible refine at_store ?_); (first | (refine md_stw rfl hS rfl rfl rfl (by first | exact .head | exact .tail .head | exact .tail (.tail .head) | exact .tail (.tail (.tail .head)) | exact .tail (.tail (.tail (.tail .head))) | fail) ?_; intro w hS)); (try simp only [Act.put, List.setIfInBounds_toArray, List.set_cons_zero, List.set_cons_succ])))
      all_goals (refine md_res2 hS rfl rfl (by (first | exact .head | exact .tail .head | exact .tail (.tail .head) | exact .tail (.tail (.tail .head)) | exact .tail (.tail (.tail (.tail .head))) | fail)) rfl rfl (fun hb => ⟨rfl, hb⟩))
    · obtain rfl : R = none := by rw [← HR.out, if_neg h0, if_neg hx]
      have hx' : (T == s) = false := by simpa using hx
      clear hx HR h0
      go_enter Tryz.func19, Tryz.ntmps19
      go_wp2_with (first | (go_at_call 47; (with_reducible refine (St.call hS fun hl => r15GuessM_is _ _ HG hs _ hl).mono ?_); rintro e w ⟨rfl, hS⟩) | (go_at_call 15; (with_reducible refine (St.call hS fun hl => r15Text_is _ _ HT _ hl).mono ?_); rintro e w ⟨rfl, hS⟩) | ((with_reducible refine at_alloc ?_); (first | (refine wpList_new 27 rfl hS rfl _ md_new ?_; intro g w hS)); (try simp only [Act.put, List.setIfInBounds_toArray, List.set_cons_zero, List.set_cons_succ])) | ((with_reducible refine md_shape_ ?_); refine md_bld_ rfl ?_; (try simp only [Act.put, List.setIfInBounds_toArray, List.set_cons_zero, List.set_cons_succ])) | ((with_reducible refine at_load ?_); (first | (refine md_ldw rfl hS rfl rfl (by (first | exact .head | exact .tail .head | exact .tail (.tail .head) | exact .tail (.tail (.tail .head)) | exact .tail (.tail (.tail (.tail .head))) | fail)) ?_)); (try simp only [Act.put, List.setIfInBounds_toArray, List.set_cons_zero, List.set_cons_succ])) | ((with_reducible refine at_store ?_); (first | (refine md_stw rfl hS rfl rfl rfl (by first | exact .head | exact .tail .head | exact .tail (.tail .head) | exact .tail (.tail (.tail .head)) | exact .tail (.tail (.tail (.tail .head))) | fail) ?_; intro w hS)); (try simp only [Act.put, List.setIfInBounds_toArray, List.set_cons_zero, List.set_cons_succ])))
      all_goals (refine md_res2 hS rfl rfl (by (first | exact .head | exact .tail .head | exact .tail (.tail .head) | exact .tail (.tail (.tail .head)) | exact .tail (.tail (.tail (.tail .head))) | fail)) rfl rfl (fun hb => ⟨rfl, hb⟩))
theorem r15ParseM_is (s : Str) (hs : s.length < 100000000) (R : Option Md) (h : Hid (mdParse s = R)) (w : World) (hl : Laid w) : Calls Tryz.prog 19 #[.string (B s)] w fun e w' => e = .returned (mdRet R) ∧ Below w.heap.size w w' :=
  r15ParseM_at s hs _ (Lib.hid rfl) _ (Lib.hid rfl) R (Lib.hid (by rw [← h.out, ← qMd_eq]; rfl)) w hl
theorem r15ParseM_some (s : Str) (hs : s.length < 100000000) (r : Md) (h : Hid (mdParse s = some r)) (w : World) (hl : Laid w) : Calls Tryz.prog 19 #[.string (B s)] w fun e w' => e = .returned (.tuple #[.agg r.cells, .int .i64 0]) ∧ Below w.heap.size w w' := r15ParseM_is s hs _ h w hl
theorem r15ParseM_none (s : Str) (hs : s.length < 100000000) (h : Hid (mdParse s = none)) (w : World) (hl : Laid w) : Calls Tryz.prog 19 #[.string (B s)] w fun e w' => e = .returned (.tuple #[.agg zeroM.cells, .int .i64 3]) ∧ Below w.heap.size w w' := r15ParseM_is s hs _ h w hl
set_option maxRecDepth 100000 in
set_option maxHeartbeats 8000000 in
theorem r15ParseList_any (s : Str) (hs : s.length < 100000000) (w0 : World) (hl : Laid w0) : Calls Tryz.prog 25 #[.string (B s)] w0 (ListP s w0) := by
  have hS := St.start hl keepsL
  have hsz : (B s).size = s.length := B_size s
  have hgt := get_l (B s)
  rw [L_B] at hgt
  go_enter Tryz.func25, Tryz.ntmps25
  go_wp2_with (first | fail)
  go_loopw [4, 5, 6] (fun ov gv iv wr => ∃ (k g : Nat) (ms : List Md) (v : Value), k ≤ s.length + 1 ∧ g ≤ s.length + 2 ∧ ms.length ≤ 6 ∧ ov = v ∧ gv = .int .i64 g ∧ iv = .int .i64 k ∧ Hid (RL s k g ms) ∧ Hid (wr.ownsRow w0.heap.size TMd 20 v ms.length (mdFlat ms)) ∧ Hid (Below w0.heap.size w0 wr)) (fun _ _ iv _ => s.length + 1 - (intOf iv).toNat)
  case atStart => exact ⟨0, 0, [], .slice none 0 0, by omega, by omega, by simp, rfl, rfl, rfl, Lib.hid (RL.start s), Lib.hid (World.ownsRow_nil _ _ _ _), Lib.hid hS.below⟩
  case round =>
    clear hS
    obtain ⟨k, g, ms, v, hk1, hg1, h6, rfl, rfl, rfl, HR, HO, HB⟩ := hrel
    have hS := St.start (hl.below HB.out) keepsL
    have hszb := HB.out.size
    by_cases hk : k ≤ s.length
    · by_cases hgk : g ≤ k
      · by_cases hend : k = s.length
        · obtain ⟨hbad, hgood⟩ := HR.out.cut hgk hk (.inl hend)
          have hke : ¬ k < s.length := by omega
          clear hend
          obtain ⟨x, hx⟩ : ∃ x, (s.take k).drop g = x := ⟨_, rfl⟩
          rw [hx] at hbad hgood
          have hxl : x.length ≤ s.length := by rw [← hx]; simp; omega
          have hx1 : (B s).extract g k = B x := by rw [← hx]; exact L_inj (by rw [L_extract, L_B, L_B])
          clear hx
          cases hp : mdParse x with
          | none =>
            have HX := Lib.hid (hbad (.inl hp))
            have HP := Lib.hid hp
            clear hbad hgood hp HR
            go_wp2_with (first | (go_at_call 19; (with_reducible refine (St.call hS fun hl => r15ParseM_none x (by omega) HP _ hl).mono ?_); rintro e w ⟨rfl, hS⟩) | ((with_reducible refine at_alloc ?_); (first | (refine wpList_new 27 rfl hS rfl _ md_new ?_; intro g w hS)); (try simp only [Act.put, List.setIfInBounds_toArray, List.set_cons_zero, List.set_cons_succ])) | ((with_reducible refine at_store ?_); (first | (refine md_stw rfl hS rfl rfl rfl (by first | exact .head | exact .tail .head | exact .tail (.tail .head) | exact .tail (.tail (.tail .head)) | exact .tail (.tail (.tail (.tail .head))) | fail) ?_; intro w hS)); (try simp only [Act.put, List.setIfInBounds_toArray, List.set_cons_zero, List.set_cons_succ])))
            all_goals go_ret2
            all_goals exact ⟨HB.out.trans (hS.below.mono hszb), .inl ⟨HX.out, rfl⟩⟩
          | some m =>
            have HP := Lib.hid hp
            by_cases h66 : ms.length = 6
            · have HX := Lib.hid (hbad (.inr h66))
              clear hbad hgood hp HR
              rcases HO.out.2 with ⟨rfl, h0⟩ | ⟨gv, cap, cur, rfl, _⟩
              · omega
              · rw [h66]
                go_wp2_with (first | (go_at_call 19; (with_reducible refine (St.call hS fun hl => r15ParseM_some x (by omega) m HP _ hl).mono ?_); rintro e w ⟨rfl, hS⟩) | ((with_reducible refine at_alloc ?_); (first | (refine wpList_new 27 rfl hS rfl _ md_new ?_; intro g w hS)); (try simp only [Act.put, List.setIfInBounds_toArray, List.set_cons_zero, List.set_cons_succ])) | ((with_reducible refine at_store ?_); (first | (refine md_stw rfl hS rfl rfl rfl (by first | exact .head | exact .tail .head | exact .tail (.tail .head) | exact .tail (.tail (.tail .head)) | exact .tail (.tail (.tail (.tail .head))) | fail) ?_; intro w hS)); (try simp only [Act.put, List.setIfInBounds_toArray, List.set_cons_zero, List.set_cons_succ])))
                all_goals go_ret2
                all_goals exact ⟨HB.out.trans (hS.below.mono hszb), .inl ⟨HX.out, rfl⟩⟩
            · have hgd := hgood m hp h66
              have HR2 : Hid (RL s (k + 1) (k + 2) (ms ++ [m])) := Lib.hid (by
                rcases Nat.lt_or_ge k s.length with h | h
                · exact hgd.2 h
                · exact hgd.1 (by omega))
              clear hbad hgood hgd hp HR
              have hne : ((ms.length : Int) == 6) = false := by rw [beq_eq_false_iff_ne]; omega
              have h7 : ms.length ≤ 1000000 := by omega
              rcases HO.out.2 with ⟨rfl, h0⟩ | ⟨gv, cap, cur, rfl, _⟩
              · obtain rfl : ms = [] := List.length_eq_zero_iff.1 h0
                go_wp2_with (first | (go_at_call 19; (with_reducible refine (St.call hS fun hl => r15ParseM_some x (by omega) m HP _ hl).mono ?_); rintro e w ⟨rfl, hS⟩) | ((with_reducible refine at_slice1 ?_); refine wpList_lit rfl hS rfl rfl _ TMd (md_lit m) ?_; intro g3 w hS; (try simp only [Act.put, List.setIfInBounds_toArray, List.set_cons_zero, List.set_cons_succ])) | (at_builtin; refine wpList_app_md (b := w0.heap.size) (ms := []) rfl rfl rfl (World.ownsRow_nil _ _ _ _) rfl (hS.row .head) (by simp) (Nat.le_trans hszb hS.below.size) ?_; intro g' cap' w1 hown' hb1) | ((with_reducible refine at_alloc ?_); (first | (refine wpList_new 27 rfl hS rfl _ md_new ?_; intro g w hS)); (try simp only [Act.put, List.setIfInBounds_toArray, List.set_cons_zero, List.set_cons_succ])) | ((with_reducible refine at_load ?_); (first | (refine md_ldw rfl hS rfl rfl (by (first | exact .head | exact .tail .head | exact .tail (.tail .head) | exact .tail (.tail (.tail .head)) | exact .tail (.tail (.tail (.tail .head))) | fail)) ?_)); (try simp only [Act.put, List.setIfInBounds_toArray, List.set_cons_zero, List.set_cons_succ])) | ((with_reducible refine at_store ?_); (first | (refine md_stw rfl hS rfl rfl rfl (by first | exact .head | exact .tail .head | exact .tail (.tail .head) | exact .tail (.tail (.tail .head)) | exact .tail (.tail (.tail (.tail .head))) | fail) ?_; intro w hS)); (try simp only [Act.put, List.setIfInBounds_toArray, List.set_cons_zero, List.set_cons_succ])))
                go_roundw
                case rel => exact ⟨k + 1, k + 2, [] ++ [m], _, by omega, by omega, by simp, rfl, by go_num, by go_num, HR2, Lib.hid hown', Lib.hid ((HB.out.trans (hS.below.mono hszb)).trans hb1)⟩
                case measure => simp [intOf]; omega
              · skip
                go_wp2_with (first | (go_at_call 19; (with_reducible refine (St.call hS fun hl => r15ParseM_some x (by omega) m HP _ hl).mono ?_); rintro e w ⟨rfl, hS⟩) | ((with_reducible refine at_slice1 ?_); refine wpList_lit rfl hS rfl rfl _ TMd (md_lit m) ?_; intro g3 w hS; (try simp only [Act.put, List.setIfInBounds_toArray, List.set_cons_zero, List.set_cons_succ])) | (at_builtin; refine wpList_app_md (b := w0.heap.size) (ms := ms) rfl rfl rfl (own_below HO.out hS.below) rfl (hS.row .head) h7 (Nat.le_trans hszb hS.below.size) ?_; intro g' cap' w1 hown' hb1) | ((with_reducible refine at_alloc ?_); (first | (refine wpList_new 27 rfl hS rfl _ md_new ?_; intro g w hS)); (try simp only [Act.put, List.setIfInBounds_toArray, List.set_cons_zero, List.set_cons_succ])) | ((with_reducible refine at_load ?_); (first | (refine md_ldw rfl hS rfl rfl (by (first | exact .head | exact .tail .head | exact .tail (.tail .head) | exact .tail (.tail (.tail .head)) | exact .tail (.tail (.tail (.tail .head))) | fail)) ?_)); (try simp only [Act.put, List.setIfInBounds_toArray, List.set_cons_zero, List.set_cons_succ])) | ((with_reducible refine at_store ?_); (first | (refine md_stw rfl hS rfl rfl rfl (by first | exact .head | exact .tail .head | exact .tail (.tail .head) | exact .tail (.tail (.tail .head)) | exact .tail (.tail (.tail (.tail .head))) | fail) ?_; intro w hS)); (try simp only [Act.put, List.setIfInBounds_toArray, List.set_cons_zero, List.set_cons_succ])))
                go_roundw
                case rel => exact ⟨k + 1, k + 2, ms ++ [m], _, by omega, by omega, by simp; omega, rfl, by go_num, by go_num, HR2, Lib.hid (by rw [List.length_append]; exact hown'), Lib.hid ((HB.out.trans (hS.below.mono hszb)).trans hb1)⟩
                case measure => simp [intOf]; omega
        · have hlt : k < s.length := by omega
          by_cases hc : byt s k = 44 ∧ k + 1 < s.length ∧ byt s (k + 1) = 32
          · obtain ⟨c1, c2, c3⟩ := hc
            have d5 : ((k : Int) + 1 == (s.length : Int)) = false := by rw [beq_eq_false_iff_ne]; omega
            obtain ⟨hbad, hgood⟩ := HR.out.cut hgk hk (.inr ⟨c1, c2, c3⟩)
            obtain ⟨x, hx⟩ : ∃ x, (s.take k).drop g = x := ⟨_, rfl⟩
            rw [hx] at hbad hgood
            have hxl : x.length ≤ s.length := by rw [← hx]; simp; omega
            have hx1 : (B s).extract g k = B x := by rw [← hx]; exact L_inj (by rw [L_extract, L_B, L_B])
            clear hx
            cases hp : mdParse x with
            | none =>
              have HX := Lib.hid (hbad (.inl hp))
              have HP := Lib.hid hp
              clear hbad hgood hp HR
              go_wp2_with (first | (go_at_call 19; (with_reducible refine (St.call hS fun hl => r15ParseM_none x (by omega) HP _ hl).mono ?_); rintro e w ⟨rfl, hS⟩) | ((with_reducible refine at_alloc ?_); (first | (refine wpList_new 27 rfl hS rfl _ md_new ?_; intro g w hS)); (try simp only [Act.put, List.setIfInBounds_toArray, List.set_cons_zero, List.set_cons_succ])) | ((with_reducible refine at_store ?_); (first | (refine md_stw rfl hS rfl rfl rfl (by first | exact .head | exact .tail .head | exact .tail (.tail .head) | exact .tail (.tail (.tail .head)) | exact .tail (.tail (.tail (.tail .head))) | fail) ?_; intro w hS)); (try simp only [Act.put, List.setIfInBounds_toArray, List.set_cons_zero, List.set_cons_succ])))
              all_goals go_ret2
              all_goals exact ⟨HB.out.trans (hS.below.mono hszb), .inl ⟨HX.out, rfl⟩⟩
            | some m =>
              have HP := Lib.hid hp
              by_cases h66 : ms.length = 6
              · have HX := Lib.hid (hbad (.inr h66))
                clear hbad hgood hp HR
                rcases HO.out.2 with ⟨rfl, h0⟩ | ⟨gv, cap, cur, rfl, _⟩
                · omega
                · rw [h66]
                  go_wp2_with (first | (go_at_call 19; (with_reducible refine (St.call hS fun hl => r15ParseM_some x (by omega) m HP _ hl).mono ?_); rintro e w ⟨rfl, hS⟩) | ((with_reducible refine at_alloc ?_); (first | (refine wpList_new 27 rfl hS rfl _ md_new ?_; intro g w hS)); (try simp only [Act.put, List.setIfInBounds_toArray, List.set_cons_zero, List.set_cons_succ])) | ((with_reducible refine at_store ?_); (first | (refine md_stw rfl hS rfl rfl rfl (by first | exact .head | exact .tail .head | exact .tail (.tail .head) | exact .tail (.tail (.tail .head)) | exact .tail (.tail (.tail (.tail .head))) | fail) ?_; intro w hS)); (try simp only [Act.put, List.setIfInBounds_toArray, List.set_cons_zero, List.set_cons_succ])))
                  all_goals go_ret2
                  all_goals exact ⟨HB.out.trans (hS.below.mono hszb), .inl ⟨HX.out, rfl⟩⟩
              · have hgd := hgood m hp h66
                have HR2 : Hid (RL s (k + 1) (k + 2) (ms ++ [m])) := Lib.hid (by
                  rcases Nat.lt_or_ge k s.length with h | h
                  · exact hgd.2 h
                  · exact hgd.1 (by omega))
                clear hbad hgood hgd hp HR
                have hne : ((ms.length : Int) == 6) = false := by rw [beq_eq_false_iff_ne]; omega
                have h7 : ms.length ≤ 1000000 := by omega
                rcases HO.out.2 with ⟨rfl, h0⟩ | ⟨gv, cap, cur, rfl, _⟩
                · obtain rfl : ms = [] := List.length_eq_zero_iff.1 h0
                  go_wp2_with (first | (go_at_call 19; (with_reducible refine (St.call hS fun hl => r15ParseM_some x (by omega) m HP _ hl).mono ?_); rintro e w ⟨rfl, hS⟩) | ((with_reducible refine at_slice1 ?_); refine wpList_lit rfl hS rfl rfl _ TMd (md_lit m) ?_; intro g3 w hS; (try simp only [Act.put, List.setIfInBounds_toArray, List.set_cons_zero, List.set_cons_succ])) | (at_builtin; refine wpList_app_md (b := w0.heap.size) (ms := []) rfl rfl rfl (World.ownsRow_nil _ _ _ _) rfl (hS.row .head) (by simp) (Nat.le_trans hszb hS.below.size) ?_; intro g' cap' w1 hown' hb1) | ((with_reducible refine at_alloc ?_); (first | (refine wpList_new 27 rfl hS rfl _ md_new ?_; intro g w hS)); (try simp only [Act.put, List.setIfInBounds_toArray, List.set_cons_zero, List.set_cons_succ])) | ((with_reducible refine at_load ?_); (first | (refine md_ldw rfl hS rfl rfl (by (first | exact .head | exact .tail .head | exact .tail (.tail .head) | exact .tail (.tail (.tail .head)) | exact .tail (.tail (.tail (.tail .head))) | fail)) ?_)); (try simp only [Act.put, List.setIfInBounds_toArray, List.set_cons_zero, List.set_cons_succ])) | ((with_reducible refine at_store ?_); (first | (refine md_stw rfl hS rfl rfl rfl (by first | exact .head | exact .tail .head | exact .tail (.tail .head) | exact .tail (.tail (.tail .head)) | exact .tail (.tail (.tail (.tail .head))) | fail) ?_; intro w hS)); (try simp only [Act.put, List.setIfInBounds_toArray, List.set_cons_zero, List.set_cons_succ])))
                  go_roundw
                  case rel => exact ⟨k + 1, k + 2, [] ++ [m], _, by omega, by omega, by simp, rfl, by go_num, by go_num, HR2, Lib.hid hown', Lib.hid ((HB.out.trans (hS.below.mono hszb)).trans hb1)⟩
                  case measure => simp [intOf]; omega
                · skip
                  go_wp2_with (first | (go_at_call 19; (with_reducible refine (St.call hS fun hl => r15ParseM_some x (by omega) m HP _ hl).mono ?_); rintro e w ⟨rfl, hS⟩) | ((with_reducible refine at_slice1 ?_); refine wpList_lit rfl hS rfl rfl _ TMd (md_lit m) ?_; intro g3 w hS; (try simp only [Act.put, List.setIfInBounds_toArray, List.set_cons_zero, List.set_cons_succ])) | (at_builtin; refine wpList_app_md (b := w0.heap.size) (ms := ms) rfl rfl rfl (own_below HO.out hS.below) rfl (hS.row .head) h7 (Nat.le_trans hszb hS.below.size) ?_; intro g' cap' w1 hown' hb1) | ((with_reducible refine at_alloc ?_); (first | (refine wpList_new 27 rfl hS rfl _ md_new ?_; intro g w hS)); (try simp only [Act.put, List.setIfInBounds_toArray, List.set_cons_zero, List.set_cons_succ])) | ((with_reducible refine at_load ?_); (first | (refine md_ldw rfl hS rfl rfl (by (first | exact .head | exact .tail .head | exact .tail (.tail .head) | exact .tail (.tail (.tail .head)) | exact .tail (.tail (.tail (.tail .head))) | fail)) ?_)); (try simp only [Act.put, List.setIfInBounds_toArray, List.set_cons_zero, List.set_cons_succ])) | ((with_reducible refine at_store ?_); (first | (refine md_stw rfl hS rfl rfl rfl (by first | exact .head | exact .tail .head | exact .tail (.tail .head) | exact .tail (.tail (.tail .head)) | exact .tail (.tail (.tail (.tail .head))) | fail) ?_; intro w hS)); (try simp only [Act.put, List.setIfInBounds_toArray, List.set_cons_zero, List.set_cons_succ])))
                  go_roundw
                  case rel => exact ⟨k + 1, k + 2, ms ++ [m], _, by omega, by omega, by simp; omega, rfl, by go_num, by go_num, HR2, Lib.hid (by rw [List.length_append]; exact hown'), Lib.hid ((HB.out.trans (hS.below.mono hszb)).trans hb1)⟩
                  case measure => simp [intOf]; omega
          · by_cases d1 : byt s k = 44
            · by_cases d2 : k + 1 < s.length
              · have d3 : ¬ byt s (k + 1) = 32 := fun e => hc ⟨d1, d2, e⟩
                have d5 : ((k : Int) + 1 == (s.length : Int)) = false := by rw [beq_eq_false_iff_ne]; omega
                have HR2 := Lib.hid (HR.out.move hgk hlt hc)
                clear HR hc
                go_wp2_with (first | fail)
                go_roundw
                case rel => exact ⟨k + 1, g, ms, _, by omega, by omega, h6, rfl, rfl, by go_num, HR2, HO, Lib.hid HB.out⟩
                case measure => simp [intOf]; omega
              · have d4 : k + 1 = s.length := by omega
                have d5 : ((k : Int) + 1 == (s.length : Int)) = true := by rw [beq_iff_eq]; omega
                have HR2 := Lib.hid (HR.out.move hgk hlt hc)
                clear HR hc
                go_wp2_with (first | fail)
                go_roundw
                case rel => exact ⟨k + 1, g, ms, _, by omega, by omega, h6, rfl, rfl, by go_num, HR2, HO, Lib.hid HB.out⟩
                case measure => simp [intOf]; omega
            · have d6 : (((byt s k : Nat) : Int) == 44) = false := by rw [beq_eq_false_iff_ne]; omega
              have d7 : (((byt s k : Nat) : Int) != 44) = true := by rw [bne, d6]; rfl
              have HR2 := Lib.hid (HR.out.move hgk hlt hc)
              clear HR hc
              go_wp2_with (first | fail)
              go_roundw
              case rel => exact ⟨k + 1, g, ms, _, by omega, by omega, h6, rfl, rfl, by go_num, HR2, HO, Lib.hid HB.out⟩
              case measure => simp [intOf]; omega
      · obtain rfl : g = k + 1 := by
          rcases HR.out with ⟨_, _, _, h⟩ | ⟨_, _, _, h, _⟩ | ⟨_, _, _, _, h, _⟩
          · omega
          · omega
          · exact h
        obtain ⟨hlt, e32, hr2⟩ := HR.out.skip hk
        have HR2 := Lib.hid hr2
        have d1 : ¬ byt s k = 44 := by omega
        clear HR hr2
        go_wp2_with (first | fail)
        go_roundw
        case rel => exact ⟨k + 1, k + 1, ms, _, by omega, by omega, h6, rfl, rfl, by go_num, HR2, HO, Lib.hid HB.out⟩
        case measure => simp [intOf]; omega
    · obtain rfl : k = s.length + 1 := by omega
      have HX := Lib.hid HR.out.out
      clear HR
      go_wp2_with (first | fail)
      all_goals go_ret2
      all_goals exact ⟨HB.out.trans (hS.below.mono hszb), .inr ⟨ms, _, HX.out, rfl, own_below HO.out hS.below⟩⟩
end Go.Proofs.YtakgfbcmkhcdkaaGreatDoor
namespace Go.Proofs.YtakgfbcmkhcdkaaGreatDoor
set_option linter.all false
open Go.ChangeShapes Go.WideShapes Go.RowKit
attribute [local irreducible] wpList Code.wp Calls
theorem mdFlat_at : ∀ (l : List Md) (k : Nat) (r : Md) (j : Nat) (v : Value), l[k]? = some r → r.cells.toList[j]? = some v → (mdFlat l)[k * 20 + j]? = some v
  | [], k, r, j, v, h, _ => by simp at h
  | a :: l, 0, r, j, v, h, hj => by
    have e : a = r := by simpa using h
    subst e
    have hl : j < a.cells.toList.length := by
      rcases Nat.lt_or_ge j a.cells.toList.length with h' | h'
      · exact h'
      · rw [List.getElem?_eq_none h'] at hj; cases hj
    rw [Nat.zero_mul, Nat.zero_add, mdFlat, List.flatMap_cons, List.getElem?_append_left hl]; exact hj
  | a :: l, k + 1, r, j, v, h, hj => by
    have ih := mdFlat_at l k r j v (by simpa using h) hj
    have hl : a.cells.toList.length = 20 := rfl
    rw [mdFlat, List.flatMap_cons, List.getElem?_append_right (by rw [hl]; omega), hl, show (k + 1) * 20 + j - 20 = k * 20 + j by omega]
    exact ih
theorem own_ms {w : World} {b : Nat} {v : Value} {l : List Md} (h : w.ownsRow b TMd 20 v l.length (mdFlat l)) (hne : l ≠ []) : ∃ g c, v = .slice (some ⟨g, 0, none⟩) l.length c ∧ MsAt g 0 l w := by
  rcases h.2 with ⟨_, h0⟩ | ⟨g, cap, cur, rfl, hb, hg, hn, hcap, hcs, htk⟩
  · exact absurd (List.length_eq_zero_iff.1 h0) hne
  · refine ⟨g, cap, rfl, fun k r hk j u hj => ?_⟩
    have hlt : k < l.length := by
      rcases Nat.lt_or_ge k l.length with h' | h'
      · exact h'
      · rw [List.getElem?_eq_none h'] at hk; cases hk
    have hj20 : j < 20 := by
      rcases Nat.lt_or_ge j r.cells.toList.length with h' | h'
      · exact h'
      · rw [List.getElem?_eq_none h'] at hj; cases hj
    rw [cell_of_row w g _ cur TMd (0, 0) hg]
    have e := mdFlat_at l k r j u hk hj
    rw [← htk, List.getElem?_take] at e
    have : k * 20 + j < l.length * 20 := by
      have : (k + 1) * 20 ≤ l.length * 20 := Nat.mul_le_mul_right _ hlt
      omega
    rw [if_pos this] at e
    rw [show 0 + k * 20 + j = k * 20 + j by omega]
    simpa using e
set_option maxRecDepth 100000 in
theorem listText_nil (A : Option Addr) (c : Nat) (w : World) : Calls Tryz.prog 26 #[.slice A 0 c] w fun e w' => e = .returned (.string (B [])) ∧ w = w' := by
  go_enter Tryz.func26, Tryz.ntmps26
  go_wp2
  go_ret
  exact ⟨rfl, rfl⟩
set_option maxRecDepth 100000 in
theorem r15ListText_nil (A : Option Addr) (c : Nat) (w : World) : Calls Tryz.prog 27 #[.slice A 0 c] w fun e w' => e = .returned (.string (B [])) ∧ w = w' := by
  go_enter Tryz.func27, Tryz.ntmps27
  go_wp2
  go_ret
  exact ⟨rfl, rfl⟩
/-- ParseList at a text that is read: the list lies in memory. -/
theorem plist_some (s : Str) (hs : s.length < 100000000) (ms : List Md) (h : Hid (mlParse s = some ms)) (w : World) (hl : Laid w) : Calls Tryz.prog 24 #[.string (B s)] w fun e w' => ∃ g c, e = .returned (.tuple #[.slice (some ⟨g, 0, none⟩) ms.length c, .int .i64 0]) ∧ MsAt g 0 ms w' ∧ Below w.heap.size w w' :=
  (parseList_any s hs w hl).mono fun e w' ⟨hb, hr⟩ => by
    rcases hr with ⟨h1, _⟩ | ⟨l, v, h1, rfl, own⟩
    · rw [h.out] at h1; cases h1
    · rw [h.out] at h1
      obtain rfl := Option.some.inj h1
      obtain ⟨g, c, rfl, hm⟩ := own_ms own (mlParse_back h.out).1
      exact ⟨g, c, rfl, hm, hb⟩
theorem plist_none (s : Str) (hs : s.length < 100000000) (h : Hid (mlParse s = none)) (w : World) (hl : Laid w) : Calls Tryz.prog 24 #[.string (B s)] w fun e w' => e = .returned (.tuple #[.slice none 0 0, .int .i64 3]) ∧ Below w.heap.size w w' :=
  (parseList_any s hs w hl).mono fun e w' ⟨hb, hr⟩ => by
    rcases hr with ⟨_, h1⟩ | ⟨l, v, h1, _, _⟩
    · exact ⟨h1, hb⟩
    · rw [h.out] at h1; cases h1
theorem rlist_some (s : Str) (hs : s.length < 100000000) (ms : List Md) (h : Hid (mlParse s = some ms)) (w : World) (hl : Laid w) : Calls Tryz.prog 25 #[.string (B s)] w fun e w' => ∃ g c, e = .returned (.tuple #[.slice (some ⟨g, 0, none⟩) ms.length c, .int .i64 0]) ∧ MsAt g 0 ms w' ∧ Below w.heap.size w w' :=
  (r15ParseList_any s hs w hl).mono fun e w' ⟨hb, hr⟩ => by
    rcases hr with ⟨h1, _⟩ | ⟨l, v, h1, rfl, own⟩
    · rw [h.out] at h1; cases h1
    · rw [h.out] at h1
      obtain rfl := Option.some.inj h1
      obtain ⟨g, c, rfl, hm⟩ := own_ms own (mlParse_back h.out).1
      exact ⟨g, c, rfl, hm, hb⟩
theorem rlist_none (s : Str) (hs : s.length < 100000000) (h : Hid (mlParse s = none)) (w : World) (hl : Laid w) : Calls Tryz.prog 25 #[.string (B s)] w fun e w' => e = .returned (.tuple #[.slice none 0 0, .int .i64 3]) ∧ Below w.heap.size w w' :=
  (r15ParseList_any s hs w hl).mono fun e w' ⟨hb, hr⟩ => by
    rcases hr with ⟨_, h1⟩ | ⟨l, v, h1, _, _⟩
    · exact ⟨h1, hb⟩
    · rw [h.out] at h1; cases h1
end Go.Proofs.YtakgfbcmkhcdkaaGreatDoor
