/- Walks: package effect: Parse. Conditions: LaidM; the text is shorter than a hundred million bytes. Effects in rows of the call's own; package effect: ParseList. Conditions: LaidM; the parts are sho -/
import Derived.Test.YtdnnbfbhifelkaaGreatDoorMEIs
import Derived.Test.YtdnnbfbhifelkaaGreatDoorQ2
import Derived.Test.YtdnnbfbhifelkaaGreatDoorQ7
import Derived.Test.YtdnnbfbhifelkaaGreatDoorQ6
import Derived.Test.YtdnnbfbhifelkaaGreatDoorQ3
set_option linter.all false
set_option maxRecDepth 100000
set_option maxHeartbeats 16000000
namespace Go.Proofs.YtdnnbfbhifelkaaGreatDoor
attribute [local irreducible] wpList Code.wp Calls
open Go.ChangeShapes Go.WideShapes Go.RowKit
theorem splitAuxE_mem (b : Nat) : ∀ (s cur : Str) (d : Nat), ∀ x ∈ splitAux b d cur s, x.length ≤ cur.length + s.length
 | [], cur, d, x, h => by
   rw [splitAux] at h; simp at h; subst h; simp
 | c :: r, cur, d, x, h => by
   rw [splitAux] at h
   split at h
   ·rcases List.mem_cons.1 h with rfl | h
    ·simp
    ·have := splitAuxE_mem b r [] _ x h; simp at this ⊢; omega
   ·have := splitAuxE_mem b r _ _ x h; simp at this ⊢; omega
theorem splitAuxE_len (b : Nat) : ∀ (s cur : Str) (d : Nat), (splitAux b d cur s).length ≤ s.length + 1 ∧ splitAux b d cur s ≠ []
 | [], cur, d => by rw [splitAux]; simp
 | c :: r, cur, d => by
   rw [splitAux]
   split
   ·have := (splitAuxE_len b r [] (deeperN d c.toNat)).1
    constructor
    ·simp only [List.length_cons]; first | omega | (have := (splitAuxE_len b r [] d).1; omega)
    ·simp
   ·have := splitAuxE_len b r (cur ++ [c]) (deeperN d c.toNat)
    constructor
    ·simp only [List.length_cons]; have := this.1; omega
    ·exact this.2
theorem wsplit_E (s : Str) (hs : s.length < 100000000) (ws : List Str) (h : Hid (splitDep 32 s = ws)) (w : World) : Calls Tryz.prog 49 #[.string (B s), .int .u8 32] w fun e w' => ∃ gw c, e = .returned (.slice (some ⟨gw, 0, none⟩) ws.length c) ∧ CellsAt gw 0 ws w' ∧ ws.length ≤ c ∧ Below w.heap.size w w' := by
 have h0 := wsplit_any (B s) 32 (by decide) (by decide) (by rw [B_size]; exact hs) w
 rw [L_B, h.out] at h0
 refine h0.mono fun e w' ⟨A, c, he, ht, hb⟩ => ?_
 have hne : 0 < ws.length := by
  rw [← h.out]; exact List.length_pos_iff.2 (splitAuxE_len 32 s [] 0).2
 have ht' := ht
 obtain ⟨_, h2⟩ := ht
 rcases h2 with ⟨_, h0⟩ | ⟨g, cap, cur, hv, hbg, hh, hn, _, _, hx⟩
 ·omega
 ·injection hv with e1 e2 e3
  subst e1 e3
  refine ⟨g, c, he, fun k x hk => ?_, hn, hb⟩
  have hlt : k < ws.length := by
   rcases Nat.lt_or_ge k ws.length with h | h
   ·exact h
   ·rw [List.getElem?_eq_none h] at hk; cases hk
  rw [Nat.zero_add, cell_of_row w' g k cur 9 (0, 0) hh]
  have e := congrArg (fun z => z[k]?) hx
  simp only [Nat.mul_one, List.getElem?_take, hlt, if_true, Array.getElem?_toList] at e
  rw [e, strCells_at hlt]
  rw [List.getElem?_eq_getElem hlt] at hk
  rw [Option.some.inj hk]
def EParseP (s : Str) (w : World) (e : Ending) (w' : World) : Prop :=
 Below w.heap.size w w' ∧ ((eParse s = none ∧ e = .returned (.tuple #[.agg zeroEm.cells, .int .i64 3])) ∨ ∃ x v, eParse s = some x ∧ e = .returned (.tuple #[.agg (x.at v).cells, .int .i64 0]) ∧ ModsR x v w.heap.size w')
theorem eParse_any (s : Str) (hs : s.length < 100000000) (w0 : World) (hl : LaidM w0) : Calls Tryz.prog 17 #[.string (B s)] w0 (EParseP s w0) := by
 obtain ⟨ws, hsp⟩ : ∃ ws, splitDep 32 s = ws := ⟨_, rfl⟩
 have hl1 := splitAuxE_len 32 s [] 0
 rw [show splitAux 32 0 [] s = ws from hsp] at hl1
 have hws : ∀ x ∈ ws, x.length < 100000000 := fun x hx => by
  have := splitAuxE_mem 32 s [] 0 x (by rw [show splitAux 32 0 [] s = ws from hsp]; exact hx)
  simp at this; omega
 have hbig : ws.length < 100000001 := by omega
 have h1 : 1 ≤ ws.length := List.length_pos_iff.2 hl1.2
 obtain ⟨W0, hw0⟩ : ∃ W0, ws[0]? = some W0 := ⟨ws[0]'h1, List.getElem?_eq_getElem h1⟩
 have HW0 := Lib.hid hw0
 have HSP := Lib.hid hsp
 obtain ⟨G, hG⟩ : ∃ G, guessE ws = G := ⟨_, rfl⟩
 obtain ⟨T, hT⟩ : ∃ T, eText G = T := ⟨_, rfl⟩
 have hp : eParse s = if s ≠ [] ∧ T = s then some G else none := by unfold eParse; rw [hsp, hG, hT]
 have HG := Lib.hid hG
 have HT := Lib.hid hT
 clear hl1 hw0 hsp hG hT
 have hS := St.start hl keepsM
 unfold EParseP
 by_cases h0 : s = []
 ·rw [if_neg (fun h => h.1 h0)] at hp
  have HP := Lib.hid hp
  subst h0
  clear hp
  go_enter Tryz.func17, Tryz.ntmps17
  go_wp2_with (first | fail | ((refine hot_here rfl ?_); (first | ((with_reducible refine at_guard ?_); (first | (refine wpList_pass rfl ?_)); (try simp only [put0, put1, put2, put3, put4])) | ((with_reducible refine at_alloc ?_); (first | (refine wpList_new 34 rfl hS rfl _ em_new ?_; intro g w hS)); (try simp only [put0, put1, put2, put3, put4])) | ((with_reducible refine em_shape_ ?_); refine em_bld_ rfl ?_; (try simp only [put0, put1, put2, put3, put4])) | ((with_reducible refine at_store ?_); (first | (refine em_stw rfl hS rfl rfl rfl (by repeat constructor) ?_; intro w hS)); (try simp only [put0, put1, put2, put3, put4])))) | ((fail_if_success (with_reducible refine wpList_here ?_)); (first | (go_at_call 49; (refine (wsplit_E _ (by omega) ws HSP _).mono ?_); rintro e w ⟨gw, cw, rfl, hcells, hcw, hb⟩; have hS := hS.mono hb; have HCL := Lib.hid hcells; clear hcells) | (go_at_call 48; (refine (eGuess_walk gw ws cw hws hbig h1 hcw W0 HW0 _ ⟨hS.laid, HCL.out⟩).mono ?_); rw [HG.out]; rintro e w ⟨v, rfl, ⟨hv1, hv2, (⟨hva, hmn⟩ | ⟨gm, cm, hva, hge, hgm, hback⟩)⟩, hb⟩ <;> (first | (have hS := hS.grow hb hgm hge; have HV := Lib.hid hva; have HBK := Lib.hid hback; clear hva hback hgm hge hb) | (have hS := hS.mono hb; have HV := Lib.hid hva; have HMN := Lib.hid hmn; clear hva hmn hb))))))
  all_goals (refine em_res2 hS rfl rfl (by repeat constructor) rfl rfl (fun hb => ⟨hb, .inl ⟨HP.out, rfl⟩⟩))
 ·have hz : (s == []) = false := by simpa using h0
  by_cases hx : T = s
  ·rw [if_pos ⟨h0, hx⟩] at hp
   have HP := Lib.hid hp
   subst hx
   have ht : (T == T) = true := by simp
   clear hp
   go_enter Tryz.func17, Tryz.ntmps17
   go_wp2_with (first | fail | ((refine hot_here rfl ?_); (first | ((with_reducible refine at_load (T := 34) ?_); (first | (refine em_ldw rfl hS rfl rfl (by repeat constructor) ?_)); (try simp only [put0, put1, put2, put3, put4])) | ((with_reducible refine at_alloc ?_); (first | (refine wpList_new 34 rfl hS rfl _ em_new ?_; intro g w hS)); (try simp only [put0, put1, put2, put3, put4])) | ((with_reducible refine at_store ?_); (first | (refine em_stw rfl hS rfl rfl rfl (by repeat constructor) ?_; intro w hS)); (try simp only [put0, put1, put2, put3, put4])))) | ((fail_if_success (with_reducible refine wpList_here ?_)); (first | (go_at_call 49; (refine (wsplit_E _ (by omega) ws HSP _).mono ?_); rintro e w ⟨gw, cw, rfl, hcells, hcw, hb⟩; have hS := hS.mono hb; have HCL := Lib.hid hcells; clear hcells) | (go_at_call 48; (refine (eGuess_walk gw ws cw hws hbig h1 hcw W0 HW0 _ ⟨hS.laid, HCL.out⟩).mono ?_); rw [HG.out]; rintro e w ⟨v, rfl, ⟨hv1, hv2, (⟨hva, hmn⟩ | ⟨gm, cm, hva, hge, hgm, hback⟩)⟩, hb⟩ <;> (first | (have hS := hS.grow hb hgm hge; have HV := Lib.hid hva; have HBK := Lib.hid hback; clear hva hback hgm hge hb) | (have hS := hS.mono hb; have HV := Lib.hid hva; have HMN := Lib.hid hmn; clear hva hmn hb))) | (go_at_call 13; (first | (refine (St.call hS fun hl => eText_any G v _ HT _ ⟨hl, ⟨hv1, hv2, .inl HMN.out⟩⟩).mono ?_) | (refine (St.call hS fun hl => eText_any G v _ HT _ ⟨hl, ⟨hv1, hv2, .inr ⟨gm, 0, HV.out, HBK.out _ (hS.row (.tail .head))⟩⟩⟩).mono ?_)); rintro e w ⟨rfl, hS⟩))))
   ·refine em_res2 hS rfl rfl (by repeat constructor) rfl rfl (fun hb => ⟨hb, .inr ⟨G, v, HP.out, rfl, hv1, hv2, .inl ⟨HV.out, HMN.out⟩⟩⟩)
   ·refine em_res2 hS rfl rfl (by repeat constructor) rfl rfl (fun hb => ⟨hb, .inr ⟨G, v, HP.out, rfl, hv1, hv2, .inr ⟨gm, cm, HV.out, (hS.has _ (.tail _ (.head _))).2, hS.row (.tail .head), HBK.out⟩⟩⟩)
  ·rw [if_neg (fun h => hx h.2)] at hp
   have HP := Lib.hid hp
   have hx' : (T == s) = false := by simpa using hx
   clear hp
   go_enter Tryz.func17, Tryz.ntmps17
   go_wp2_with (first | fail | ((refine hot_here rfl ?_); (first | ((with_reducible refine at_load (T := 34) ?_); (first | (refine em_ldw rfl hS rfl rfl (by repeat constructor) ?_)); (try simp only [put0, put1, put2, put3, put4])) | ((with_reducible refine at_alloc ?_); (first | (refine wpList_new 34 rfl hS rfl _ em_new ?_; intro g w hS)); (try simp only [put0, put1, put2, put3, put4])) | ((with_reducible refine em_shape_ ?_); refine em_bld_ rfl ?_; (try simp only [put0, put1, put2, put3, put4])) | ((with_reducible refine at_store ?_); (first | (refine em_stw rfl hS rfl rfl rfl (by repeat constructor) ?_; intro w hS)); (try simp only [put0, put1, put2, put3, put4])))) | ((fail_if_success (with_reducible refine wpList_here ?_)); (first | (go_at_call 49; (refine (wsplit_E _ (by omega) ws HSP _).mono ?_); rintro e w ⟨gw, cw, rfl, hcells, hcw, hb⟩; have hS := hS.mono hb; have HCL := Lib.hid hcells; clear hcells) | (go_at_call 48; (refine (eGuess_walk gw ws cw hws hbig h1 hcw W0 HW0 _ ⟨hS.laid, HCL.out⟩).mono ?_); rw [HG.out]; rintro e w ⟨v, rfl, ⟨hv1, hv2, (⟨hva, hmn⟩ | ⟨gm, cm, hva, hge, hgm, hback⟩)⟩, hb⟩ <;> (first | (have hS := hS.grow hb hgm hge; have HV := Lib.hid hva; have HBK := Lib.hid hback; clear hva hback hgm hge hb) | (have hS := hS.mono hb; have HV := Lib.hid hva; have HMN := Lib.hid hmn; clear hva hmn hb))) | (go_at_call 13; (first | (refine (St.call hS fun hl => eText_any G v _ HT _ ⟨hl, ⟨hv1, hv2, .inl HMN.out⟩⟩).mono ?_) | (refine (St.call hS fun hl => eText_any G v _ HT _ ⟨hl, ⟨hv1, hv2, .inr ⟨gm, 0, HV.out, HBK.out _ (hS.row (.tail .head))⟩⟩⟩).mono ?_)); rintro e w ⟨rfl, hS⟩))))
   all_goals (refine em_res2 hS rfl rfl (by repeat constructor) rfl rfl (fun hb => ⟨hb, .inl ⟨HP.out, rfl⟩⟩))
abbrev TEm : Nat := 34
abbrev TEs : Nat := 46
abbrev EV := Ef × Sl
def EV.cells (p : EV) : Array Value := (p.1.at p.2).cells
theorem em_lit (r : Em) : ∀ w : World, (Instr.buildSlice TEs 1 #[(0, .agg (Em.cells r))]).run Tryz.prog w = .ok (.slice (some ⟨w.heap.size, 0, none⟩) 1 1) (w.alloc (.cells (Em.cells r) TEm)) := fun _ => by kernel_rfl
theorem em_full : (Tryz.prog.info? TEm).map (fun i => (i.zero, i.size, i.bytes)) = some (some (.agg zeroEm.cells), 64, 560) := by kernel_rfl
theorem em_all (r : Em) : (Em.cells r).all (·.oneCell') = true := by kernel_rfl
theorem em_ones (r : Em) : ∀ u ∈ r.cells.toList, u.oneCell' = true := fun u hu => (Array.all_eq_true_iff_forall_mem.1 (em_all r)) u (by simpa using hu)
def emFlat (l : List EV) : List Value := l.flatMap fun p => p.cells.toList
theorem emFlat_snoc (l : List EV) (m : EV) : emFlat (l ++ [m]) = emFlat l ++ m.cells.toList := by simp [emFlat]
theorem ModsR.keep {e : Ef} {v : Sl} {b : Nat} {w w' : World} (h : ModsR e v b w) (hb : Below w.heap.size w w') : ModsR e v b w' :=
 ⟨h.1, h.2.1, h.2.2.imp id fun ⟨g, cur, ha, hbg, hg, hm⟩ => ⟨g, cur, ha, hbg, blk_below2 hb hg, hm⟩⟩
theorem ModsR.le {e : Ef} {v : Sl} {b b' : Nat} {w : World} (h : ModsR e v b w) (hb : b' ≤ b) : ModsR e v b' w :=
 ⟨h.1, h.2.1, h.2.2.imp id fun ⟨g, cur, ha, hbg, hg, hm⟩ => ⟨g, cur, ha, by omega, hg, hm⟩⟩
def OwnE (w : World) (b : Nat) (es : List EV) (v : Value) : Prop := w.ownsRow b TEm 64 v es.length (emFlat es) ∧ ∀ p ∈ es, ModsR p.1 p.2 b w
theorem OwnE.keep {w w' : World} {b : Nat} {es : List EV} {v : Value} (h : OwnE w b es v) (hb : Below w.heap.size w w') : OwnE w' b es v := ⟨own_below h.1 hb, fun p hp => (h.2 p hp).keep hb⟩
theorem OwnE.le {w : World} {b b' : Nat} {es : List EV} {v : Value} (h : OwnE w b es v) (hb : b' ≤ b) : OwnE w b' es v := ⟨own_le hb h.1, fun p hp => (h.2 p hp).le hb⟩
theorem OwnE.nil (w : World) (b : Nat) : OwnE w b [] (.slice none 0 0) := ⟨World.ownsRow_nil _ _ _ _, by simp⟩
theorem OwnE.form {w : World} {b : Nat} {es : List EV} {v : Value} (h : OwnE w b es v) : ∃ A c, v = .slice A es.length c := by
 rcases h.1.2 with ⟨rfl, h0⟩ | ⟨g, cap, cur, rfl, _⟩
 ·exact ⟨none, 0, by rw [h0]⟩
 ·exact ⟨_, _, rfl⟩
theorem ModsR.grown {e : Ef} {v : Sl} {b : Nat} {w w' : World} (h : ModsR e v b w) {r : Option Nat} (hg : w.grownBy w' r) (hr : ∀ g, r = some g → ∃ cur fr, w.heap[g]? = some (.cells cur TEm fr)) : ModsR e v b w' := by
 refine ⟨h.1, h.2.1, h.2.2.imp id fun ⟨g, cur, ha, hbg, hgg, hm⟩ => ⟨g, cur, ha, hbg, ?_, hm⟩⟩
 rw [hg.block g (Array.getElem?_eq_some_iff.1 hgg).1 ?_]; exact hgg
 intro e1
 obtain ⟨c2, f2, h2⟩ := hr g e1.symm
 rw [hgg] at h2
 injection h2 with h2
 injection h2 with _ h3
 cases h3
theorem wpList_app_em {w : World} {ops : Array Oper} {rest : List Oper} {o : Oper} {a : Act} {Q : Exit → Act → World → Prop} {es : List EV} {r : EV} {b : Nat} {v : Value} {x y : Operand} (ho : o.op = .call { callee := .builtin .append, args := #[x, y], argTypes := #[TEs, TEs] }) (hg : o.guard = none) (hs : a.eval x = v) (own : OwnE w b es v)
 {g3 : Nat} (hx : a.eval y = .slice (some ⟨g3, 0, none⟩) 1 1) (hr : w.heap[g3]? = some (.cells r.cells TEm (0, 0))) (hm : ModsR r.1 r.2 b w) (h6 : es.length ≤ 1000000) (hb : b ≤ w.heap.size)
 (h : ∀ g' cap' w1, OwnE w1 b (es ++ [r]) (.slice (some ⟨g', 0, none⟩) (es.length + 1) cap') → Below b w w1 → wpList Tryz.prog ops Q rest (a.put o.dst (.slice (some ⟨g', 0, none⟩) (es.length + 1) cap')) w1) : wpList Tryz.prog ops Q (o :: rest) a w := by
 obtain ⟨i0, hi0, hz0, hz1, hz2⟩ := info_parts em_full
 refine wpList_append_own w hg x y TEs ho b TEm i0 (.agg zeroEm.cells) 64 560 Tryz.underlying46 hi0 hz0 hz1 hz2 rfl (by decide) v es.length (emFlat es) hs own.1 ⟨g3, 0, none⟩ 1 1 r.cells.toList hx rfl (row_add hr) (em_ones _) (by unfold maxLen; omega) (by omega) hb ?_
 intro v' w1 hown hgrow _
 obtain ⟨g', cap', rfl⟩ := ownsRow_succ hown
 refine h g' cap' w1 ⟨?_, fun p hp => ?_⟩ ((Below.refl b w).grown hgrow hb (fun k hk => (own.1.lt k hk).1))
 ·rw [emFlat_snoc, List.length_append]; exact hown
 ·have hrow : ∀ g, v.ownBlock = some g → ∃ cur fr, w.heap[g]? = some (.cells cur TEm fr) := fun g hg => by
   rcases own.1.2 with ⟨rfl, _⟩ | ⟨g2, cap, cur, rfl, _, h2, _⟩
   ·cases hg
   ·have : g2 = g := by simpa [Value.ownBlock] using hg
    subst this
    exact ⟨cur, _, h2⟩
  rcases List.mem_append.1 hp with hp | hp
  ·exact (own.2 p hp).grown hgrow hrow
  ·obtain rfl : p = r := by simpa using hp
   exact hm.grown hgrow hrow
def EListP (s : Str) (w : World) (e : Ending) (w' : World) : Prop :=
 Below w.heap.size w w' ∧ ((elParse s = none ∧ e = .returned (.tuple #[.slice none 0 0, .int .i64 3])) ∨ ∃ es v, elParse s = some (es.map Prod.fst) ∧ e = .returned (.tuple #[v, .int .i64 0]) ∧ OwnE w' w.heap.size es v)
theorem eParse_no (s : Str) (hs : s.length < 100000000) (h : Hid (eParse s = none)) (w : World) (hl : LaidM w) : Calls Tryz.prog 17 #[.string (B s)] w fun e w' => e = .returned (.tuple #[.agg zeroEm.cells, .int .i64 3]) ∧ Below w.heap.size w w' :=
 (eParse_any s hs w hl).mono fun e w' ⟨hb, hr⟩ => by
  rcases hr with ⟨_, he⟩ | ⟨x, v, hx, _⟩
  ·exact ⟨he, hb⟩
  ·rw [h.out] at hx; cases hx
theorem eParse_yes (s : Str) (hs : s.length < 100000000) (m : Ef) (h : Hid (eParse s = some m)) (w : World) (hl : LaidM w) : Calls Tryz.prog 17 #[.string (B s)] w fun e w' => ∃ v, e = .returned (.tuple #[.agg (m.at v).cells, .int .i64 0]) ∧ ModsR m v w.heap.size w' ∧ Below w.heap.size w w' :=
 (eParse_any s hs w hl).mono fun e w' ⟨hb, hr⟩ => by
  rcases hr with ⟨hx, _⟩ | ⟨x, v, hx, he, hm⟩
  ·rw [h.out] at hx; cases hx
  ·rw [h.out] at hx
   obtain rfl := Option.some.inj hx
   exact ⟨v, he, hm, hb⟩
theorem esplit_E (s : Str) (hs : s.length < 1000000000) (ps : List Str) (h : Hid (ssplit s = ps)) (w : World) (hl : Laid w) : Calls Tryz.prog 53 #[.string (B s), .string ⟨#[59, 32]⟩] w fun e w' => ∃ gw c, e = .returned (.slice (some ⟨gw, 0, none⟩) ps.length c) ∧ CellsAt gw 0 ps w' ∧ Below w.heap.size w w' :=
 (Tryz.strings_Split_shaped (B s) ⟨#[59, 32]⟩ w hl.shaped (by rw [B_size]; omega) (by decide)).mono fun e w' ⟨he, hw⟩ => by
  have hL := splitB_semi (B s)
  rw [L_B, h.out] at hL
  have hlen : (Lib.splitB ⟨#[59, 32]⟩ 0 (Lib.countB (B s) ⟨#[59, 32]⟩) (B s)).length = Lib.countB (B s) ⟨#[59, 32]⟩ + 1 := Lib.splitB_all ⟨#[59, 32]⟩ (by decide) 0 _ (B s) rfl
  have hl2 : ps.length = Lib.countB (B s) ⟨#[59, 32]⟩ + 1 := by rw [← hL, List.length_map, hlen]
  rw [← hl2] at he
  subst hw
  refine ⟨_, _, he, fun k x hk => ?_, (Below.refl _ _).alloc (Nat.le_refl _) _⟩
  rw [Nat.zero_add, cell_of_row _ _ k _ 9 (0, 0) (heap_alloc_new w _)]
  rw [← hL, List.getElem?_map] at hk
  cases hy : (Lib.splitB ⟨#[59, 32]⟩ 0 (Lib.countB (B s) ⟨#[59, 32]⟩) (B s))[k]? with
  | none => rw [hy] at hk; cases hk
  | some y =>
    rw [hy] at hk
    have e1 : L y = x := Option.some.inj hk
    rw [List.getElem?_toArray, List.getElem?_map, hy, ← e1, B_L]; rfl
abbrev LaidP (gw : Nat) (ps : List Str) (b : Nat) (es : List EV) (v : Value) (w : World) : Prop := LaidM w ∧ CellsAt gw 0 ps w ∧ OwnE w b es v
theorem keepsP (gw : Nat) (ps : List Str) (b : Nat) (es : List EV) (v : Value) : ∀ w1 w2 : World, LaidP gw ps b es v w1 → Below w1.heap.size w1 w2 → LaidP gw ps b es v w2 := fun _ _ h hb => ⟨h.1.below hb, h.2.1.keep hb, h.2.2.keep hb⟩
abbrev LaidP2 (gw : Nat) (ps : List Str) (b : Nat) (es : List EV) (v : Value) (m : Ef) (vm : Sl) (w : World) : Prop := LaidP gw ps b es v w ∧ ModsR m vm b w
theorem keepsP2 (gw : Nat) (ps : List Str) (b : Nat) (es : List EV) (v : Value) (m : Ef) (vm : Sl) : ∀ w1 w2 : World, LaidP2 gw ps b es v m vm w1 → Below w1.heap.size w1 w2 → LaidP2 gw ps b es v m vm w2 := fun _ _ h hb => ⟨keepsP _ _ _ _ _ _ _ h.1 hb, h.2.keep hb⟩
theorem part_at {gw : Nat} {ps : List Str} {w : World} (h : CellsAt gw 0 ps w) {k : Nat} {x : Str} (hk : Hid (ps[k]? = some x)) : w.cell? ⟨gw, k, none⟩ = some (.string (B x)) := by
 have := h k x hk.out
 rwa [Nat.zero_add] at this
theorem elRun_step (out : List Ef) (x : Str) (m : Ef) (r : List Str) (h : eParse x = some m) (h8 : ¬ out.length = 8) : elRun out (x :: r) = elRun (out ++ [m]) r := by
 rw [elRun, h]; simp only; rw [if_neg h8]
theorem elRun_bad (out : List Ef) (x : Str) (r : List Str) (h : eParse x = none ∨ out.length = 8) : elRun out (x :: r) = none := by
 rw [elRun]
 cases hp : eParse x with
 | none => rfl
 | some m =>
   rcases h with h | h
   ·rw [hp] at h; cases h
   ·simp only; rw [if_pos h]
theorem ssplit_mem (s x : Str) (h : x ∈ ssplit s) : x.length ≤ s.length := by
 have := ssAux_mem s [] false x h
 simpa using this
theorem eParseList_any (s : Str) (hs : s.length < 1000000000) (hp0 : ∀ x ∈ ssplit s, x.length < 100000000) (w0 : World) (hl : LaidM w0) : Calls Tryz.prog 21 #[.string (B s)] w0 (EListP s w0) := by
 obtain ⟨ps, hps⟩ : ∃ ps, ssplit s = ps := ⟨_, rfl⟩
 have hpm : ∀ x ∈ ps, x.length < 100000000 := fun x hx => hp0 x (hps ▸ hx)
 have hpl : ps.length ≤ 1000000001 := by
  have := ssAux_len s [] false
  rw [show ssAux false [] s = ps from hps] at this; omega
 have h0 : elParse s = elRun [] ps := by unfold elParse; rw [hps]
 have HPS := Lib.hid hps
 have H0 := Lib.hid h0
 clear hps h0
 have hS := St.start hl keepsM
 go_enter Tryz.func21, Tryz.ntmps21
 go_wp2_with (first | (go_at_call 53; (refine (esplit_E s hs ps HPS _ hS.laid.base).mono ?_); rintro e w1 ⟨gw, cw, rfl, hcells, hb⟩; have hS := hS.mono hb; have HCL := Lib.hid hcells; clear hcells hb))
 have hl1 := hS.laid
 have HB1 := Lib.hid hS.below
 clear hS
 go_loopw [4, 12] (fun lv iv wr => ∃ (k : Nat) (es : List EV) (v : Value), k ≤ ps.length ∧ es.length ≤ 8 ∧ lv = v ∧ iv = .int .i64 k ∧ Hid (elParse s = elRun (es.map Prod.fst) (ps.drop k)) ∧ Hid (OwnE wr w1.heap.size es v) ∧ Hid (Below w1.heap.size w1 wr)) (fun _ iv _ => ps.length - (intOf iv).toNat)
 case atStart => exact ⟨0, [], .slice none 0 0, by omega, by simp, rfl, rfl, Lib.hid H0.out, Lib.hid (OwnE.nil _ _), Lib.hid (Below.refl _ _)⟩
 case round =>
  obtain ⟨k, es, v, hk, h8, rfl, rfl, HR, HO, HB⟩ := hrel
  have hszb := HB.out.size
  have hS := St.start (L := LaidP gw ps w1.heap.size es _) ⟨hl1.below HB.out, HCL.out.keep HB.out, HO.out⟩ (keepsP gw ps w1.heap.size es _)
  by_cases hlt : k < ps.length
  ·obtain ⟨x, hx⟩ : ∃ x, ps[k]? = some x := ⟨ps[k], List.getElem?_eq_getElem hlt⟩
   have hxl := hpm x (List.mem_of_getElem? hx)
   have hd : ps.drop k = x :: ps.drop (k + 1) := by
    rw [List.drop_eq_getElem_cons hlt]
    rw [List.getElem?_eq_getElem hlt] at hx
    rw [Option.some.inj hx]
   have hr := HR.out
   rw [hd] at hr
   have HX := Lib.hid hx
   clear hd hx HR
   cases hp : eParse x with
   | none =>
     have HE := Lib.hid (hr.trans (elRun_bad _ x _ (.inl hp)))
     have HP := Lib.hid hp
     clear hr hp
     go_wp2_with (first | (go_at_call 17; (with_reducible refine (St.call hS fun hl => eParse_no x hxl HP _ hl.1).mono ?_); rintro e w ⟨rfl, hS⟩) | ((with_reducible refine at_load ?_); refine wpList_ld_out rfl rfl rfl (part_at hS.laid.2.1 HX) ?_; (try simp only [put0, put1, put2, put3, put4])) | ((with_reducible refine at_alloc ?_); (first | (refine wpList_new 34 rfl hS rfl _ em_new ?_; intro g w hS)); (try simp only [put0, put1, put2, put3, put4])) | ((with_reducible refine at_store ?_); (first | (refine em_stw rfl hS rfl rfl rfl (by repeat constructor) ?_; intro w hS)); (try simp only [put0, put1, put2, put3, put4])))
     all_goals go_ret2
     all_goals exact ⟨HB1.out.trans ((HB.out.trans (hS.below.mono hszb)).mono HB1.out.size), .inl ⟨HE.out, rfl⟩⟩
   | some m =>
     have HP := Lib.hid hp
     by_cases h88 : es.length = 8
     ·have HE := Lib.hid (hr.trans (elRun_bad _ x _ (.inr (by rw [List.length_map]; exact h88))))
      clear hr hp
      obtain ⟨va, vc, rfl⟩ := HO.out.form
      rw [h88]
      go_wp2_with (first | ((with_reducible refine at_load ?_); refine wpList_ld_out rfl rfl rfl (part_at hS.laid.2.1 HX) ?_; (try simp only [put0, put1, put2, put3, put4])) | (go_at_call 17; (refine (eParse_yes x hxl m HP _ hS.laid.1).mono ?_); rintro e w ⟨vm, rfl, _, hb⟩; have hS := hS.mono hb; clear hb) | ((with_reducible refine at_alloc ?_); (first | (refine wpList_new 34 rfl hS rfl _ em_new ?_; intro g w hS)); (try simp only [put0, put1, put2, put3, put4])) | ((with_reducible refine at_store ?_); (first | (refine em_stw rfl hS rfl rfl rfl (by repeat constructor) ?_; intro w hS)); (try simp only [put0, put1, put2, put3, put4])))
      all_goals go_ret2
      all_goals exact ⟨HB1.out.trans ((HB.out.trans (hS.below.mono hszb)).mono HB1.out.size), .inl ⟨HE.out, rfl⟩⟩
     ·have HE := Lib.hid (hr.trans (elRun_step _ x m _ hp (by rw [List.length_map]; exact h88)))
      clear hr hp
      have hne : ((es.length : Int) == 8) = false := by rw [beq_eq_false_iff_ne]; omega
      have h7 : es.length ≤ 1000000 := by omega
      obtain ⟨va, vc, rfl⟩ := HO.out.form
      go_wp2_with (first | ((with_reducible refine at_load ?_); refine wpList_ld_out rfl rfl rfl (part_at hS.laid.2.1 HX) ?_; (try simp only [put0, put1, put2, put3, put4])) | (go_at_call 17; (refine (eParse_yes x hxl m HP _ hS.laid.1).mono ?_); rintro e w ⟨vm, rfl, hmr, hb⟩; have HBB := Lib.hid (hS.below.trans (hb.mono hS.below.size)); have hS := St.start (L := LaidP2 gw ps w1.heap.size es _ m vm) ⟨(hS.mono hb).laid, hmr.le (Nat.le_trans hszb hS.below.size)⟩ (keepsP2 _ _ _ _ _ _ _); clear hb hmr) | ((with_reducible refine at_slice1 ?_); refine wpList_lit rfl hS rfl rfl _ TEm (em_lit (m.at vm)) ?_; intro g3 w hS; (try simp only [put0, put1, put2, put3, put4])) | (at_builtin; refine wpList_app_em (b := w1.heap.size) (es := es) (r := (m, vm)) rfl rfl rfl hS.laid.1.2.2 rfl (hS.row .head) hS.laid.2 h7 (Nat.le_trans (Nat.le_trans hszb HBB.out.size) hS.below.size) ?_; intro g' cap' w5 hown' hb5) | ((with_reducible refine at_alloc ?_); (first | (refine wpList_new 34 rfl hS rfl _ em_new ?_; intro g w hS)); (try simp only [put0, put1, put2, put3, put4])) | ((with_reducible refine at_load ?_); (first | (refine em_ldw rfl hS rfl rfl (by repeat constructor) ?_)); (try simp only [put0, put1, put2, put3, put4])) | ((with_reducible refine at_store ?_); (first | (refine em_stw rfl hS rfl rfl rfl (by repeat constructor) ?_; intro w hS)); (try simp only [put0, put1, put2, put3, put4])))
      go_roundw
      case rel => exact ⟨k + 1, es ++ [(m, vm)], _, by omega, by simp; omega, rfl, by go_num, Lib.hid (by rw [HE.out, List.map_append]; rfl), Lib.hid hown', Lib.hid ((HB.out.trans ((HBB.out.trans (hS.below.mono HBB.out.size)).mono hszb)).trans hb5)⟩
      case measure => simp [intOf]; omega
  ·obtain rfl : k = ps.length := by omega
   have HE : Hid (elParse s = some (es.map Prod.fst)) := Lib.hid (by rw [HR.out, List.drop_length, elRun])
   clear HR
   go_wp2_with (first | fail)
   all_goals go_ret2
   all_goals exact ⟨HB1.out.trans ((HB.out.trans (hS.below.mono hszb)).mono HB1.out.size), .inr ⟨es, _, HE.out, rfl, (hS.laid.2.2).le HB1.out.size⟩⟩
abbrev LArg2 (A A2 : Option Addr) (l l2 : List Md) (w : World) : Prop := ArgAt A l w ∧ ArgAt A2 l2 w
theorem keepsG2 (A A2 : Option Addr) (l l2 : List Md) : ∀ w1 w2 : World, LArg2 A A2 l l2 w1 → Below w1.heap.size w1 w2 → LArg2 A A2 l l2 w2 := fun _ _ h hb => ⟨h.1.keep hb, h.2.keep hb⟩
theorem argAt_in {A : Option Addr} {l : List Md} {w : World} (h : ArgAt A l w) {k : Nat} (hk : k < l.length) : ∃ b off, A = some ⟨b, off, none⟩ := by
 rcases h with rfl | ⟨b, off, e, _⟩
 ·simp at hk
 ·exact ⟨b, off, e⟩
theorem argAt_ms {b off : Nat} {l : List Md} {w : World} (h : ArgAt (some ⟨b, off, none⟩) l w) {k : Nat} {m : Md} (hk : Hid (l[k]? = some m)) : w.rangeAt b (off + k * 20) m.cells.toList := by
 rcases h with rfl | ⟨b, off, e, hm⟩
 ·have := hk.out; simp at this
 ·injection e with e
  injection e with e1 e2
  subst e1 e2
  exact hm k m hk.out
def mdsEq : List Md → List Md → Bool
 | [], [] => true
 | a :: l, b :: r => mdEq a b && mdsEq l r
 | _, _ => false
theorem mdsEq_iff : ∀ (l r : List Md), mdsEq l r = true ↔ l = r
 | [], [] => by simp [mdsEq]
 | [], b :: r => by simp [mdsEq]
 | a :: l, [] => by simp [mdsEq]
 | a :: l, b :: r => by rw [mdsEq, Bool.and_eq_true, mdEq_iff, mdsEq_iff l r, List.cons.injEq]
theorem mdsEq_no {l r : List Md} (h : l ≠ r) : mdsEq l r = false := by rw [← Bool.not_eq_true, mdsEq_iff]; exact h
theorem take_eq_step {l l2 : List Md} {k : Nat} {m m2 : Md} (h : l.take k = l2.take k) (h1 : l[k]? = some m) (h2 : l2[k]? = some m2) (he : m = m2) : l.take (k + 1) = l2.take (k + 1) := by
 rw [List.take_succ, List.take_succ, h, h1, h2, he]
theorem sameMods_any (l l2 : List Md) (A A2 : Option Addr) (c c2 : Nat) (b : Bool) (HB0 : Hid (mdsEq l l2 = b)) (w0 : World) (hl : LArg2 A A2 l l2 w0) (h0 : l.length < 1000000) (h02 : l2.length < 1000000) : Calls Tryz.prog 52 #[.slice A l.length c, .slice A2 l2.length c2] w0 fun e w' => e = .returned (.bool b) ∧ Below w0.heap.size w0 w' := by
 have hS := St.start hl (keepsG2 A A2 l l2)
 by_cases hlen : l.length = l2.length
 ·have hz : ((l.length : Int) == (l2.length : Int)) = true := by rw [hlen]; simp
  go_enter Tryz.func52, Tryz.ntmps52
  go_wp2_with (first | fail)
  go_loopw [5] (fun iv wr => ∃ (k : Nat), k ≤ l.length ∧ iv = .int .i64 k ∧ Hid (l.take k = l2.take k) ∧ Hid (Below w0.heap.size w0 wr)) (fun iv _ => l.length - (intOf iv).toNat)
  case atStart => exact ⟨0, by omega, rfl, Lib.hid rfl, Lib.hid hS.below⟩
  case round =>
   clear hS
   obtain ⟨k, hk, rfl, HE, HB⟩ := hrel
   have hS := St.start (keepsG2 A A2 l l2 _ _ hl HB.out) (keepsG2 A A2 l l2)
   have hszb := HB.out.size
   by_cases hlt : k < l.length
   ·obtain ⟨m, hm⟩ : ∃ m, l[k]? = some m := ⟨l[k], List.getElem?_eq_getElem hlt⟩
    have hlt2 : k < l2.length := by omega
    obtain ⟨m2, hm2⟩ : ∃ m, l2[k]? = some m := ⟨l2[k], List.getElem?_eq_getElem hlt2⟩
    obtain ⟨b1, o1, rfl⟩ := argAt_in hS.laid.1 hlt
    obtain ⟨b2, o2, rfl⟩ := argAt_in hS.laid.2 hlt2
    have HM := Lib.hid hm
    have HM2 := Lib.hid hm2
    by_cases hmm : m = m2
    ·have HN := Lib.hid (take_eq_step HE.out hm hm2 hmm)
     have heq := fun (wx : World) => (neq_md m m2 wx).trans (by rw [(mdEq_iff m m2).2 hmm])
     clear hm hm2 HE hmm
     go_wp2_with (first | ((with_reducible refine rat_load ?_); refine runS_ld_at (ds := Md.cells m) TMd rfl rfl rfl (fun w hS => argAt_ms hS.laid.1 HM) Tryz.underlying54 rfl md_info (fun _ _ _ h => h) ?_; (try simp only [put0, put1, put2, put3, put4])) | ((with_reducible refine rat_load ?_); refine runS_ld_at (ds := Md.cells m2) TMd rfl rfl rfl (fun w hS => argAt_ms hS.laid.2 HM2) Tryz.underlying54 rfl md_info (fun _ _ _ h => h) ?_; (try simp only [put0, put1, put2, put3, put4])) | ((with_reducible refine region_here ?_); refine wp_region_St hS (by kernel_rfl) (by kernel_rfl) ?_) | ((with_reducible refine runS_end ?_); intro w hS) | ((with_reducible refine runS_here ?_); (refine runS_val (v := ?_) rfl (fun _ _ _ h => h) ?_ ?_; rotate_left; (focus ((intro w hS; go_simp) <;> with_reducible rfl))); (try simp only [put0, put1, put2, put3, put4])))
     go_roundw
     case rel => exact ⟨k + 1, by omega, by go_num, HN, Lib.hid (HB.out.trans (hS.below.mono hszb))⟩
     case measure => simp [intOf]; omega
    ·have heq := fun (wx : World) => (neq_md m m2 wx).trans (by rw [show mdEq m m2 = false by rw [← Bool.not_eq_true, mdEq_iff]; exact hmm])
     obtain rfl : b = false := by
      rw [← HB0.out]
      refine mdsEq_no fun e => ?_
      subst e; rw [hm] at hm2; exact hmm (Option.some.inj hm2)
     clear hm hm2 HE hmm
     go_wp2_with (first | ((with_reducible refine rat_load ?_); refine runS_ld_at (ds := Md.cells m) TMd rfl rfl rfl (fun w hS => argAt_ms hS.laid.1 HM) Tryz.underlying54 rfl md_info (fun _ _ _ h => h) ?_; (try simp only [put0, put1, put2, put3, put4])) | ((with_reducible refine rat_load ?_); refine runS_ld_at (ds := Md.cells m2) TMd rfl rfl rfl (fun w hS => argAt_ms hS.laid.2 HM2) Tryz.underlying54 rfl md_info (fun _ _ _ h => h) ?_; (try simp only [put0, put1, put2, put3, put4])) | ((with_reducible refine region_here ?_); refine wp_region_St hS (by kernel_rfl) (by kernel_rfl) ?_) | ((with_reducible refine runS_end ?_); intro w hS) | ((with_reducible refine runS_here ?_); (refine runS_val (v := ?_) rfl (fun _ _ _ h => h) ?_ ?_; rotate_left; (focus ((intro w hS; go_simp) <;> with_reducible rfl))); (try simp only [put0, put1, put2, put3, put4])))
     all_goals go_ret
     all_goals exact ⟨ret_bool rfl, HB.out.trans (hS.below.mono hszb)⟩
   ·obtain rfl : k = l.length := by omega
    obtain rfl : b = true := by
     rw [← HB0.out, mdsEq_iff]
     have := HE.out
     rw [List.take_length, hlen, List.take_length] at this
     exact this
    go_wp2_with (first | fail)
    all_goals go_ret
    all_goals exact ⟨ret_bool rfl, HB.out.trans (hS.below.mono hszb)⟩
 ·have hz : ((l.length : Int) == (l2.length : Int)) = false := by rw [beq_eq_false_iff_ne]; omega
  obtain rfl : b = false := by
   rw [← HB0.out]; exact mdsEq_no fun e => hlen (by rw [e])
  go_enter Tryz.func52, Tryz.ntmps52
  go_wp2_with (first | fail)
  all_goals go_ret
  all_goals exact ⟨ret_bool rfl, hS.below⟩
theorem eq_fF (f g : Flt) (w : World) : (binOp .eql 25 (.agg f.cells) (.agg g.cells)).run Tryz.prog w = .ok (.bool (fltEq f g)) w := by
 obtain ⟨a, b, c, d, e, f, g, h, i, j, k, l, m, n, o, p⟩ := f
 rename_i G
 obtain ⟨a, b, c, d, e, f, g, h, i, j, k, l, m, n, o, p⟩ := G
 exact eq_flt _ _ _ _ _ _ _ _ _ _ _ _ _ _ _ _ _ _ _ _ _ _ _ _ _ _ _ _ _ _ _ _ w
def efSame (a b : Ef) : Bool := a.op == b.op && (rfEq a.ref b.ref && (amEq a.amt b.amt && (a.ctr == b.ctr && (a.zone == b.zone && (a.card.toList == b.card.toList && (fltEq a.flt b.flt && (poEq a.pool b.pool && mdsEq a.mods b.mods)))))))
theorem efSame_iff (a b : Ef) : efSame a b = true ↔ a = b := by
 unfold efSame
 obtain ⟨a1, a2, a3, a4, a5, a6, a7, a8, a9⟩ := a
 obtain ⟨b1, b2, b3, b4, b5, b6, b7, b8, b9⟩ := b
 simp only [Bool.and_eq_true, beq_iff_eq, rfEq_iff, amEq_iff, fltEq_iff, poEq_iff, mdsEq_iff, toList_eq_iff, Ef.mk.injEq]
abbrev LE2 (e e2 : Ef) (v v2 : Sl) (w : World) : Prop := ModsAt e v w ∧ ModsAt e2 v2 w
theorem keepsE2 (e e2 : Ef) (v v2 : Sl) : ∀ w1 w2 : World, LE2 e e2 v v2 w1 → Below w1.heap.size w1 w2 → LE2 e e2 v v2 w2 := fun _ _ h hb => ⟨h.1.keep hb, h.2.keep hb⟩
theorem sameMods_e (e e2 : Ef) (v v2 : Sl) (b : Bool) (HB : Hid (mdsEq e.mods e2.mods = b)) (w : World) (hl : LE2 e e2 v v2 w) : Calls Tryz.prog 52 #[.slice v.a v.n v.c, .slice v2.a v2.n v2.c] w fun x w' => x = .returned (.bool b) ∧ Below w.heap.size w w' := by
 rw [hl.1.1, hl.2.1]
 exact sameMods_any e.mods e2.mods v.a v2.a v.c v2.c b HB w ⟨hl.1.2.2, hl.2.2.2⟩ hl.1.2.1 hl.2.2.1
end Go.Proofs.YtdnnbfbhifelkaaGreatDoor
namespace Go.Proofs.YtdnnbfbhifelkaaGreatDoor
open Go.ChangeShapes Go.WideShapes Go.RowKit
def EsAt (b off : Nat) (es : List EV) (w : World) : Prop := ∀ (k : Nat) (p : EV), es[k]? = some p → w.rangeAt b (off + k * 64) (EV.cells p).toList
theorem EsAt.keep {b off : Nat} {es : List EV} {w1 w2 : World} (h : EsAt b off es w1) (hb : Below w1.heap.size w1 w2) : EsAt b off es w2 := fun k r hk j v hj => cell_below hb (h k r hk j v hj)
def ArgE (A : Option Addr) (es : List EV) (w : World) : Prop := (es = [] ∨ ∃ b off, A = some ⟨b, off, none⟩ ∧ EsAt b off es w) ∧ ∀ p ∈ es, ModsAt p.1 p.2 w
theorem ArgE.keep {A : Option Addr} {es : List EV} {w1 w2 : World} (h : ArgE A es w1) (hb : Below w1.heap.size w1 w2) : ArgE A es w2 := ⟨h.1.imp id fun ⟨b, off, e, hm⟩ => ⟨b, off, e, hm.keep hb⟩, fun p hp => (h.2 p hp).keep hb⟩
abbrev LaidL (A : Option Addr) (es : List EV) (w : World) : Prop := LaidM w ∧ ArgE A es w
theorem keepsLs (A : Option Addr) (es : List EV) : ∀ w1 w2 : World, LaidL A es w1 → Below w1.heap.size w1 w2 → LaidL A es w2 := fun _ _ h hb => ⟨h.1.below hb, h.2.keep hb⟩
theorem ArgE.in_ {A : Option Addr} {es : List EV} {w : World} (h : ArgE A es w) {k : Nat} (hk : k < es.length) : ∃ b off, A = some ⟨b, off, none⟩ := by
 rcases h.1 with rfl | ⟨b, off, e, _⟩
 ·simp at hk
 ·exact ⟨b, off, e⟩
theorem ArgE.row {b off : Nat} {es : List EV} {w : World} (h : ArgE (some ⟨b, off, none⟩) es w) {k : Nat} {p : EV} (hk : Hid (es[k]? = some p)) : w.rangeAt b (off + k * 64) (Em.cells (p.1.at p.2)).toList := by
 rcases h.1 with rfl | ⟨b, off, e, hm⟩
 ·have := hk.out; simp at this
 ·injection e with e
  injection e with e1 e2
  subst e1 e2
  exact hm k p hk.out
theorem ArgE.mods {A : Option Addr} {es : List EV} {w : World} (h : ArgE A es w) {k : Nat} {p : EV} (hk : Hid (es[k]? = some p)) : ModsAt p.1 p.2 w := h.2 p (List.mem_of_getElem? hk.out)
theorem emFlat_at : ∀ (l : List EV) (k : Nat) (r : EV) (j : Nat) (v : Value), l[k]? = some r → r.cells.toList[j]? = some v → (emFlat l)[k * 64 + j]? = some v
 | [], k, r, j, v, h, _ => by simp at h
 | a :: l, 0, r, j, v, h, hv => by
   obtain rfl : a = r := by simpa using h
   have hj : j < a.cells.toList.length := by
    rcases Nat.lt_or_ge j a.cells.toList.length with h' | h'
    ·exact h'
    ·rw [List.getElem?_eq_none h'] at hv; cases hv
   rw [emFlat, List.flatMap_cons, Nat.zero_mul, Nat.zero_add, List.getElem?_append_left hj]; exact hv
 | a :: l, k + 1, r, j, v, h, hv => by
   have ih := emFlat_at l k r j v (by simpa using h) hv
   have h64 : (EV.cells a).toList.length = 64 := rfl
   rw [emFlat, List.flatMap_cons, List.getElem?_append_right (by rw [h64]; omega), h64, show (k + 1) * 64 + j - 64 = k * 64 + j by omega]; exact ih
theorem OwnE.arg {w : World} {b : Nat} {es : List EV} {A : Option Addr} {n c : Nat} (h : OwnE w b es (.slice A n c)) : n = es.length ∧ ArgE A es w := by
 obtain ⟨⟨_, h1⟩, h2⟩ := h
 refine ⟨?_, ?_, fun p hp => (h2 p hp).at_⟩
 ·rcases h1 with ⟨e, h0⟩ | ⟨g, cap, cur, hv, _⟩
  ·injection e with _ e _
   rw [e, h0]
  ·injection hv
 ·rcases h1 with ⟨e, h0⟩ | ⟨g, cap, cur, hv, _, hh, _, _, _, hx⟩
  ·exact .inl (List.length_eq_zero_iff.1 h0)
  ·injection hv with e1 _ _
   refine .inr ⟨g, 0, e1, fun k p hk j v hj => ?_⟩
   have hkl : k < es.length := by
    rcases Nat.lt_or_ge k es.length with h' | h'
    ·exact h'
    ·rw [List.getElem?_eq_none h'] at hk; cases hk
   have hj64 : j < 64 := by
    rcases Nat.lt_or_ge j (EV.cells p).toList.length with h' | h'
    ·exact h'
    ·rw [List.getElem?_eq_none h'] at hj; cases hj
   rw [Nat.zero_add, cell_of_row w g (k * 64 + j) cur TEm (0, 0) hh]
   have e := congrArg (fun z => z[k * 64 + j]?) hx
   simp only [List.getElem?_take, show k * 64 + j < es.length * 64 by omega, if_true, Array.getElem?_toList] at e
   rw [e]; exact emFlat_at es k p j v hk hj
def ModsAt0 (e : Ef) (v : Sl) (w : World) : Prop := v.n = e.mods.length ∧ e.mods.length ≤ 9223372036854775807 ∧ ArgAt v.a e.mods w
theorem ModsAt0.keep {e : Ef} {v : Sl} {w1 w2 : World} (h : ModsAt0 e v w1) (hb : Below w1.heap.size w1 w2) : ModsAt0 e v w2 := ⟨h.1, h.2.1, h.2.2.keep hb⟩
theorem ModsAt0.few {e : Ef} {v : Sl} {w : World} (h : ModsAt0 e v w) (h20 : e.mods.length ≤ 20) : ModsAt e v w := ⟨h.1, by omega, h.2.2⟩
theorem ModsAt.any {e : Ef} {v : Sl} {w : World} (h : ModsAt e v w) : ModsAt0 e v w := ⟨h.1, by have := h.2.1; omega, h.2.2⟩
def ArgE0 (A : Option Addr) (es : List EV) (w : World) : Prop := (es = [] ∨ ∃ b off, A = some ⟨b, off, none⟩ ∧ EsAt b off es w) ∧ es.length ≤ 9223372036854775807 ∧ ∀ p ∈ es, ModsAt0 p.1 p.2 w
theorem ArgE0.keep {A : Option Addr} {es : List EV} {w1 w2 : World} (h : ArgE0 A es w1) (hb : Below w1.heap.size w1 w2) : ArgE0 A es w2 := ⟨h.1.imp id fun ⟨b, off, e, hm⟩ => ⟨b, off, e, hm.keep hb⟩, h.2.1, fun p hp => (h.2.2 p hp).keep hb⟩
theorem ArgE0.in_ {A : Option Addr} {es : List EV} {w : World} (h : ArgE0 A es w) {k : Nat} (hk : k < es.length) : ∃ b off, A = some ⟨b, off, none⟩ := by
 rcases h.1 with rfl | ⟨b, off, e, _⟩
 ·simp at hk
 ·exact ⟨b, off, e⟩
theorem ArgE0.row {b off : Nat} {es : List EV} {w : World} (h : ArgE0 (some ⟨b, off, none⟩) es w) {k : Nat} {p : EV} (hk : Hid (es[k]? = some p)) : w.rangeAt b (off + k * 64) (Em.cells (p.1.at p.2)).toList := by
 rcases h.1 with rfl | ⟨b, off, e, hm⟩
 ·have := hk.out; simp at this
 ·injection e with e
  injection e with e1 e2
  subst e1 e2
  exact hm k p hk.out
theorem ArgE0.mods {A : Option Addr} {es : List EV} {w : World} (h : ArgE0 A es w) {k : Nat} {p : EV} (hk : Hid (es[k]? = some p)) : ModsAt0 p.1 p.2 w := h.2.2 p (List.mem_of_getElem? hk.out)
theorem ArgE0.few {A : Option Addr} {es : List EV} {w : World} (h : ArgE0 A es w) (h20 : ∀ p ∈ es, p.1.mods.length ≤ 20) : ArgE A es w := ⟨h.1, fun p hp => (h.2.2 p hp).few (h20 p hp)⟩
end Go.Proofs.YtdnnbfbhifelkaaGreatDoor
namespace Go.Proofs.YtdnnbfbhifelkaaGreatDoor
attribute [local irreducible] wpList Code.wp Calls
open Go.ChangeShapes Go.WideShapes Go.RowKit
theorem same_walk (op op2 : Int) (ref ref2 : Rf) (amt amt2 : Am) (ctr ctr2 zone zone2 : Int) (p1 p2 : Str) (flt flt2 : Flt) (pool pool2 : Po) (mods mods2 : List Md) (va va2 : Option Addr) (vn vc vn2 vc2 : Nat) (c1 c2 c3 c4 c5 c6 c7 c8 c9 : Bool)
 (h1 : (op == op2) = c1) (h2 : rfEq ref ref2 = c2) (h3 : amEq amt amt2 = c3) (h4 : (ctr == ctr2) = c4) (h5 : (zone == zone2) = c5) (h6 : (p1 == p2) = c6) (h7 : fltEq flt flt2 = c7) (h8 : poEq pool pool2 = c8) (H9 : Hid (mdsEq mods mods2 = c9)) (w0 : World) (hl : LE2 ⟨op, ref, amt, ctr, zone, B p1, flt, pool, mods⟩ ⟨op2, ref2, amt2, ctr2, zone2, B p2, flt2, pool2, mods2⟩ ⟨va, vn, vc⟩ ⟨va2, vn2, vc2⟩ w0) :
 Calls Tryz.prog 19 #[.agg (Em.cells ⟨op, ref, amt, ctr, zone, B p1, flt, pool, ⟨va, vn, vc⟩⟩), .agg (Em.cells ⟨op2, ref2, amt2, ctr2, zone2, B p2, flt2, pool2, ⟨va2, vn2, vc2⟩⟩)] w0 fun x w' => x = .returned (.bool (c1 && (c2 && (c3 && (c4 && (c5 && (c6 && (c7 && (c8 && c9))))))))) ∧ Below w0.heap.size w0 w' := by
 have q1 := fun (wx : World) => (eq_rf ref ref2 wx).trans (by rw [h2])
 have q2 := fun (wx : World) => (eq_am amt amt2 wx).trans (by rw [h3])
 have q3 := fun (wx : World) => (eq_fF flt flt2 wx).trans (by rw [h7])
 have q4 := fun (wx : World) => (eq_po pool pool2 wx).trans (by rw [h8])
 have HSM := fun w hl => sameMods_e ⟨op, ref, amt, ctr, zone, B p1, flt, pool, mods⟩ ⟨op2, ref2, amt2, ctr2, zone2, B p2, flt2, pool2, mods2⟩ ⟨va, vn, vc⟩ ⟨va2, vn2, vc2⟩ c9 H9 w hl
 have HSMM := Lib.hid HSM
 clear h2 h3 h7 h8 HSM
 have hS := St.start hl (keepsE2 _ _ _ _)
 go_enter Tryz.func19, Tryz.ntmps19
 go_wp2_with (first | fail | ((refine hot_here rfl ?_); (first | ((with_reducible refine at_guard ?_); (first | (refine wpList_pass rfl ?_) | ((fail_if_success refine wpList_wanted rfl ?_); refine wpList_ask _ _ rfl rfl (fun hb => ?_) (fun hb => ?_) <;> (first | (obtain rfl := eq_of_beq hb) | (simp only [hb])))); (try simp only [put0, put1, put2, put3, put4])) | ((with_reducible refine at_load (T := 3) ?_); (first | (refine em_ld0 rfl hS rfl rfl (by repeat constructor) ?_) | (refine em_ld38 rfl hS rfl rfl (by repeat constructor) ?_) | (refine em_ld39 rfl hS rfl rfl (by repeat constructor) ?_)); (try simp only [put0, put1, put2, put3, put4])) | ((with_reducible refine at_load (T := 27) ?_); (first | (refine em_ld1 rfl hS rfl rfl (by repeat constructor) ?_)); (try simp only [put0, put1, put2, put3, put4])) | ((with_reducible refine at_load (T := 29) ?_); (first | (refine em_ld19 rfl hS rfl rfl (by repeat constructor) ?_)); (try simp only [put0, put1, put2, put3, put4])) | ((with_reducible refine at_load (T := 9) ?_); (first | (refine em_ld40 rfl hS rfl rfl (by repeat constructor) ?_)); (try simp only [put0, put1, put2, put3, put4])) | ((with_reducible refine at_load (T := 25) ?_); (first | (refine em_ld41 rfl hS rfl rfl (by repeat constructor) ?_)); (try simp only [put0, put1, put2, put3, put4])) | ((with_reducible refine at_load (T := 31) ?_); (first | (refine em_ld57 rfl hS rfl rfl (by repeat constructor) ?_)); (try simp only [put0, put1, put2, put3, put4])) | ((with_reducible refine at_load (T := 32) ?_); (first | (refine em_ld63 rfl hS rfl rfl (by repeat constructor) ?_)); (try simp only [put0, put1, put2, put3, put4])) | ((with_reducible refine at_box ?_); (first | (refine wpList_box_agg rfl hS rfl rfl ?_; intro g w hS)); (try simp only [put0, put1, put2, put3, put4])))) | ((fail_if_success (with_reducible refine wpList_here ?_)); (first | (go_at_call 52; (with_reducible refine (St.call hS fun hl => HSMM.out _ hl).mono ?_); rintro e w ⟨rfl, hS⟩))))
 all_goals go_ret
 all_goals exact ⟨ret_bool (by first | rfl | simp_all), hS.below⟩
theorem toList_B (p q : Str) : ((B p).toList == (B q).toList) = (p == q) := by
 rw [Bool.eq_iff_iff, beq_iff_eq, beq_iff_eq, toList_eq_iff]
 exact ⟨fun h => by rw [← L_B p, h, L_B], fun h => by rw [h]⟩
theorem same_any (e e2 : Ef) (v v2 : Sl) (b : Bool) (HB : Hid (efSame e e2 = b)) (w : World) (hl : LE2 e e2 v v2 w) : Calls Tryz.prog 19 #[.agg (e.at v).cells, .agg (e2.at v2).cells] w fun x w' => x = .returned (.bool b) ∧ Below w.heap.size w w' := by
 rw [← HB.out]
 unfold efSame
 obtain ⟨op, ref, amt, ctr, zone, card, flt, pool, mods⟩ := e
 obtain ⟨op2, ref2, amt2, ctr2, zone2, card2, flt2, pool2, mods2⟩ := e2
 obtain ⟨va, vn, vc⟩ := v
 obtain ⟨va2, vn2, vc2⟩ := v2
 obtain ⟨p, rfl⟩ : ∃ p, card = B p := ⟨L card, (B_L card).symm⟩
 obtain ⟨p2, rfl⟩ : ∃ p, card2 = B p := ⟨L card2, (B_L card2).symm⟩
 simp only
 rw [toList_B]
 exact same_walk op op2 ref ref2 amt amt2 ctr ctr2 zone zone2 p p2 flt flt2 pool pool2 mods mods2 va va2 vn vc vn2 vc2 _ _ _ _ _ _ _ _ _ rfl rfl rfl rfl rfl rfl rfl rfl (Lib.hid rfl) w hl
def esEq : List Ef → List Ef → Bool
 | [], [] => true
 | a :: l, b :: r => efSame a b && esEq l r
 | _, _ => false
theorem esEq_iff : ∀ (l r : List Ef), esEq l r = true ↔ l = r
 | [], [] => by simp [esEq]
 | [], b :: r => by simp [esEq]
 | a :: l, [] => by simp [esEq]
 | a :: l, b :: r => by rw [esEq, Bool.and_eq_true, efSame_iff, esEq_iff l r, List.cons.injEq]
abbrev LL2 (A A2 : Option Addr) (es es2 : List EV) (w : World) : Prop := ArgE A es w ∧ ArgE A2 es2 w
theorem keepsLL (A A2 : Option Addr) (es es2 : List EV) : ∀ w1 w2 : World, LL2 A A2 es es2 w1 → Below w1.heap.size w1 w2 → LL2 A A2 es es2 w2 := fun _ _ h hb => ⟨h.1.keep hb, h.2.keep hb⟩
theorem sameEV (p q : EV) (b : Bool) (HB : Hid (efSame p.1 q.1 = b)) (w : World) (h1 : ModsAt p.1 p.2 w) (h2 : ModsAt q.1 q.2 w) : Calls Tryz.prog 19 #[.agg (Em.cells (p.1.at p.2)), .agg (Em.cells (q.1.at q.2))] w fun x w' => x = .returned (.bool b) ∧ Below w.heap.size w w' := same_any p.1 q.1 p.2 q.2 b HB w ⟨h1, h2⟩
theorem takeE_step {l l2 : List Ef} {k : Nat} {m m2 : Ef} (h : l.take k = l2.take k) (h1 : l[k]? = some m) (h2 : l2[k]? = some m2) (he : m = m2) : l.take (k + 1) = l2.take (k + 1) := by
 rw [List.take_succ, List.take_succ, h, h1, h2, he]
theorem sameList_any (es es2 : List EV) (A A2 : Option Addr) (c c2 : Nat) (b : Bool) (HB0 : Hid (esEq (es.map Prod.fst) (es2.map Prod.fst) = b)) (w0 : World) (hl : LL2 A A2 es es2 w0) (h0 : es.length < 100000000) (h02 : es2.length < 100000000) : Calls Tryz.prog 25 #[.slice A es.length c, .slice A2 es2.length c2] w0 fun e w' => e = .returned (.bool b) ∧ Below w0.heap.size w0 w' := by
 have hS := St.start hl (keepsLL A A2 es es2)
 by_cases hlen : es.length = es2.length
 ·have hz : ((es.length : Int) == (es2.length : Int)) = true := by rw [hlen]; simp
  have hz' : ((es.length : Int) != (es2.length : Int)) = false := by rw [hlen]; simp
  go_enter Tryz.func25, Tryz.ntmps25
  go_wp2_with (first | fail | ((refine hot_here rfl ?_); (first | fail)) | ((fail_if_success (with_reducible refine wpList_here ?_)); (first | fail)))
  go_loopw [5] (fun iv wr => ∃ (k : Nat), k ≤ es.length ∧ iv = .int .i64 k ∧ Hid ((es.map Prod.fst).take k = (es2.map Prod.fst).take k) ∧ Hid (St (LL2 A A2 es es2) w0 [] wr)) (fun iv _ => es.length - (intOf iv).toNat)
  case atStart => exact ⟨0, by omega, rfl, Lib.hid rfl, Lib.hid hS⟩
  case round =>
   clear hS
   obtain ⟨k, hk, rfl, HE, HS⟩ := hrel
   have hS := HS.out
   clear HS
   by_cases hlt : k < es.length
   ·obtain ⟨p, hp⟩ : ∃ p, es[k]? = some p := ⟨es[k], List.getElem?_eq_getElem hlt⟩
    have hlt2 : k < es2.length := by omega
    obtain ⟨p2, hp2⟩ : ∃ p, es2[k]? = some p := ⟨es2[k], List.getElem?_eq_getElem hlt2⟩
    obtain ⟨b1, o1, rfl⟩ := hS.laid.1.in_ hlt
    obtain ⟨b2, o2, rfl⟩ := hS.laid.2.in_ hlt2
    have HP := Lib.hid hp
    have HP2 := Lib.hid hp2
    cases hmm : efSame p.1 p2.1 with
    | true =>
      have HN := Lib.hid (takeE_step HE.out (by rw [List.getElem?_map, hp]; rfl) (by rw [List.getElem?_map, hp2]; rfl) ((efSame_iff _ _).1 hmm))
      have HM := Lib.hid hmm
      clear hp hp2 HE hmm
      go_wp2_with (first | fail | ((refine hot_here rfl ?_); (first | fail)) | ((fail_if_success (with_reducible refine wpList_here ?_)); (first | ((with_reducible refine rat_load ?_); refine runS_ld_at (ds := Em.cells (p.1.at p.2)) TEm rfl rfl rfl (fun w hS => hS.laid.1.row HP) Tryz.underlying34 rfl em_info (fun _ _ _ h => h) ?_; (try simp only [put0, put1, put2, put3, put4])) | ((with_reducible refine rat_load ?_); refine runS_ld_at (ds := Em.cells (p2.1.at p2.2)) TEm rfl rfl rfl (fun w hS => hS.laid.2.row HP2) Tryz.underlying34 rfl em_info (fun _ _ _ h => h) ?_; (try simp only [put0, put1, put2, put3, put4])) | ((with_reducible refine region_here ?_); refine wp_region_St hS (by kernel_rfl) (by kernel_rfl) ?_) | ((with_reducible refine runS_end ?_); intro w hS) | ((with_reducible refine rat_call ?_); (first | (refine runS_call (v := ?_) (args := ?_) 19 rfl (fun _ _ _ h => h) ?_ ?_ ?_; rotate_left 2; (focus ((intro w; go_simp) <;> with_reducible rfl)); (focus (intro w hS; refine St.callE hS (fun hl => sameEV p p2 true HM _ (hl.1.mods HP) (hl.2.mods HP2)) ?_; with_reducible rfl)))); (try simp only [put0, put1, put2, put3, put4])) | ((with_reducible refine runS_here ?_); (refine runS_val (v := ?_) rfl (fun _ _ _ h => h) ?_ ?_; rotate_left; (focus ((intro w hS; go_simp) <;> with_reducible rfl))); (try simp only [put0, put1, put2, put3, put4])))))
      go_roundw
      case rel => exact ⟨k + 1, by omega, by go_num, HN, Lib.hid hS⟩
      case measure => simp [intOf]; omega
    | false =>
      obtain rfl : b = false := by
       rw [← HB0.out, ← Bool.not_eq_true, esEq_iff]
       intro e
       have e1 := congrArg (fun z => z[k]?) e
       simp only [List.getElem?_map, hp, hp2, Option.map_some] at e1
       rw [← Bool.not_eq_true, efSame_iff] at hmm
       exact hmm (Option.some.inj e1)
      have HM := Lib.hid hmm
      clear hp hp2 HE hmm
      go_wp2_with (first | fail | ((refine hot_here rfl ?_); (first | fail)) | ((fail_if_success (with_reducible refine wpList_here ?_)); (first | ((with_reducible refine rat_load ?_); refine runS_ld_at (ds := Em.cells (p.1.at p.2)) TEm rfl rfl rfl (fun w hS => hS.laid.1.row HP) Tryz.underlying34 rfl em_info (fun _ _ _ h => h) ?_; (try simp only [put0, put1, put2, put3, put4])) | ((with_reducible refine rat_load ?_); refine runS_ld_at (ds := Em.cells (p2.1.at p2.2)) TEm rfl rfl rfl (fun w hS => hS.laid.2.row HP2) Tryz.underlying34 rfl em_info (fun _ _ _ h => h) ?_; (try simp only [put0, put1, put2, put3, put4])) | ((with_reducible refine region_here ?_); refine wp_region_St hS (by kernel_rfl) (by kernel_rfl) ?_) | ((with_reducible refine runS_end ?_); intro w hS) | ((with_reducible refine rat_call ?_); (first | (refine runS_call (v := ?_) (args := ?_) 19 rfl (fun _ _ _ h => h) ?_ ?_ ?_; rotate_left 2; (focus ((intro w; go_simp) <;> with_reducible rfl)); (focus (intro w hS; refine St.callE hS (fun hl => sameEV p p2 false HM _ (hl.1.mods HP) (hl.2.mods HP2)) ?_; with_reducible rfl)))); (try simp only [put0, put1, put2, put3, put4])) | ((with_reducible refine runS_here ?_); (refine runS_val (v := ?_) rfl (fun _ _ _ h => h) ?_ ?_; rotate_left; (focus ((intro w hS; go_simp) <;> with_reducible rfl))); (try simp only [put0, put1, put2, put3, put4])))))
      all_goals go_ret
      all_goals exact ⟨rfl, hS.below⟩
   ·obtain rfl : k = es.length := by omega
    obtain rfl : b = true := by
     rw [← HB0.out, esEq_iff]
     have := HE.out
     rwa [List.take_of_length_le (by simp), List.take_of_length_le (by simp; omega)] at this
    go_wp2_with (first | fail | ((refine hot_here rfl ?_); (first | fail)) | ((fail_if_success (with_reducible refine wpList_here ?_)); (first | fail)))
    all_goals go_ret
    all_goals exact ⟨rfl, hS.below⟩
 ·have hz : ((es.length : Int) == (es2.length : Int)) = false := by rw [beq_eq_false_iff_ne]; omega
  have hz' : ((es.length : Int) != (es2.length : Int)) = true := by simp; omega
  obtain rfl : b = false := by
   rw [← HB0.out, ← Bool.not_eq_true, esEq_iff]
   intro e
   exact hlen (by have := congrArg List.length e; rwa [List.length_map, List.length_map] at this)
  go_enter Tryz.func25, Tryz.ntmps25
  go_wp2_with (first | fail | ((refine hot_here rfl ?_); (first | fail)) | ((fail_if_success (with_reducible refine wpList_here ?_)); (first | fail)))
  all_goals go_ret
  all_goals exact ⟨rfl, hS.below⟩
end Go.Proofs.YtdnnbfbhifelkaaGreatDoor
