/- Walks: package cardgamelaw17: alive: its parts. Conditions: LaidM. Walks: package cardgamelaw17: alive. Conditions: LaidM. Walks: the reference of chapter 17: Light, LightList. Conditions: the list -/
import Derived.Test.YtdnnbfbhifelkaaGreatDoorMEParse
import Derived.Test.YtdnnbfbhifelkaaGreatDoorQ3
set_option linter.all false
set_option maxRecDepth 100000
set_option maxHeartbeats 16000000
namespace Go.Proofs.YtdnnbfbhifelkaaGreatDoor
attribute [local irreducible] wpList Code.wp Calls
open Go.ChangeShapes Go.WideShapes Go.RowKit
def E1 : Ef := ⟨1, ⟨3, 1, zeroF⟩, ⟨0, 3, 0, zeroF⟩, 0, 0, ⟨#[]⟩, zeroF, zeroPo, []⟩
def E2 : Ef := ⟨4, ⟨1, 0, zeroF⟩, ⟨0, 1, 0, zeroF⟩, 0, 0, ⟨#[]⟩, zeroF, zeroPo, []⟩
def noS : Sl := ⟨none, 0, 0⟩
def litL : Str := [100, 97, 109, 97, 103, 101, 32, 116, 97, 114, 103, 101, 116, 49, 32, 51, 59, 32, 100, 114, 97, 119, 32, 121, 111, 117, 32, 49]
def litM : Str := [109, 111, 100, 32, 101, 97, 99, 104, 40, 121, 111, 117, 114, 115, 32, 99, 114, 101, 97, 116, 117, 114, 101, 41, 32, 91, 112, 116, 43, 61, 49, 47, 49, 44, 32, 107, 101, 121, 115, 43, 61, 104, 97, 115, 116, 101, 93]
theorem alive_text : elText [E1, E2] = litL := by kernel_rfl
theorem alive_list : elParse litL = some [E1, E2] := by rw [← alive_text]; exact elParse_text (by simp) (by decide) (by kernel_rfl)
def wsM : List Str := [[109, 111, 100], [101, 97, 99, 104, 40, 121, 111, 117, 114, 115, 32, 99, 114, 101, 97, 116, 117, 114, 101, 41], [91, 112, 116, 43, 61, 49, 47, 49, 44, 32, 107, 101, 121, 115, 43, 61, 104, 97, 115, 116, 101, 93]]
theorem alive_words : splitDep 32 litM = wsM := by kernel_rfl
theorem alive_guess : eText (guessE wsM) = litM := by kernel_rfl
theorem alive_parse : eParse litM = some (guessE wsM) := by unfold eParse; rw [alive_words, if_pos ⟨by decide, alive_guess⟩]
theorem alive_two : (guessE wsM).mods.length = 2 := by kernel_rfl
theorem alive_is0 : eIs E1 0 = false := by kernel_rfl
theorem alive_is1 : eIs E1 1 = true := by kernel_rfl
theorem alive_same : esEq [E1, E2] [E1, E2] = true := (esEq_iff _ _).2 rfl
theorem E1_at (w : World) : ModsAt E1 noS w := ⟨rfl, by decide, .inl rfl⟩
theorem E2_at (w : World) : ModsAt E2 noS w := ⟨rfl, by decide, .inl rfl⟩
def wantC : Array Value := Em.cells (E1.at noS) ++ Em.cells (E2.at noS)
theorem want_at {w : World} {g : Nat} (h : w.heap[g]? = some (.cells wantC TEm (0, 0))) : ArgE (some ⟨g, 0, none⟩) [(E1, noS), (E2, noS)] w := by
 refine ⟨.inr ⟨g, 0, rfl, fun k p hk j v hj => ?_⟩, fun p hp => ?_⟩
 ·rw [Nat.zero_add, cell_of_row w g (k * 64 + j) wantC TEm (0, 0) h]
  have hj64 : j < 64 := by
   rcases Nat.lt_or_ge j (EV.cells p).toList.length with h' | h'
   ·exact h'
   ·rw [List.getElem?_eq_none h'] at hj; cases hj
  match k, hk with
  | 0, hk =>
    obtain rfl : (E1, noS) = p := Option.some.inj hk
    unfold wantC
    rw [Nat.zero_mul, Nat.zero_add, Array.getElem?_append_left (by exact hj64)]
    simpa [EV.cells] using hj
  | 1, hk =>
    obtain rfl : (E2, noS) = p := Option.some.inj hk
    unfold wantC
    rw [Array.getElem?_append_right (by show 64 ≤ 1 * 64 + j; omega), show 1 * 64 + j - (Em.cells (E1.at noS)).size = j from by show 1 * 64 + j - 64 = j; omega]
    simpa [EV.cells] using hj
 ·rcases List.mem_cons.1 hp with rfl | hp
  ·exact E1_at w
  ·obtain rfl : p = (E2, noS) := by simpa using hp
   exact E2_at w
theorem em_build3 (x0 : Int) (x1 : Rf) (x2 : Am) : ∀ w : World, (Instr.build TEm ([(0, .int .i64 x0), (1, .agg (Rf.cells x1)), (2, .agg (Am.cells x2))] : List (Nat × Value)).toArray).run Tryz.prog w = .ok (.agg (Em.cells ⟨x0, x1, x2, 0, 0, ⟨#[]⟩, zeroF, zeroPo, ⟨none, 0, 0⟩⟩)) w := fun _ => by kernel_rfl
theorem em_bld3 {x0 : Int} {x1 : Rf} {x2 : Am} {y0 y1 y2 : Operand} {ops : Array Oper} {rest : List Oper} {a : Act} {w : World} {Q : Exit → Act → World → Prop} {dst : Option Tmp} {ty : TypeId} {pos : String} {af : Array Edge} {gd : Option (Nat × Bool)} (hw : Region.wanted (⟨dst, .build TEm #[(0, y0), (1, y1), (2, y2)], ty, pos, af, gd⟩ : Oper) (yielded ops a.tmps) = true) (h0 : a.eval y0 = .int .i64 x0) (h1 : a.eval y1 = .agg (Rf.cells x1)) (h2 : a.eval y2 = .agg (Am.cells x2))
 (h : wpList Tryz.prog ops Q rest (a.put dst (.agg (Em.cells ⟨x0, x1, x2, 0, 0, ⟨#[]⟩, zeroF, zeroPo, ⟨none, 0, 0⟩⟩))) w) : wpList Tryz.prog ops Q ((⟨dst, .build TEm #[(0, y0), (1, y1), (2, y2)], ty, pos, af, gd⟩ : Oper) :: rest) a w :=
 wpList_bld (l := [(0, y0), (1, y1), (2, y2)]) rfl hw (ps := [(0, .int .i64 x0), (1, .agg (Rf.cells x1)), (2, .agg (Am.cells x2))]) (by simp only [List.map_cons, List.map_nil, h0, h1, h2]) (em_build3 x0 x1 x2) h
theorem em_lit2 (w : World) : (Instr.buildSlice TEs 2 #[(0, .agg (Em.cells (E1.at noS))), (1, .agg (Em.cells (E2.at noS)))]).run Tryz.prog w = .ok (.slice (some ⟨w.heap.size, 0, none⟩) 2 2) (w.alloc (.cells wantC TEm)) := by kernel_rfl
theorem wpList_want {L : World → Prop} {w0 w : World} {rows : List Row} {ops : Array Oper} {rest : List Oper} {o : Oper} {a : Act} {Q : Exit → Act → World → Prop} {x y : Operand} (ho : o.op = .buildSlice TEs 2 #[(0, x), (1, y)]) (hS : St L w0 rows w) (hw : Region.wanted o (yielded ops a.tmps) = true) (hx : a.eval x = .agg (Em.cells (E1.at noS))) (hy : a.eval y = .agg (Em.cells (E2.at noS)))
 (h : ∀ g w', St L w0 ((g, wantC, TEm) :: rows) w' → wpList Tryz.prog ops Q rest (a.put o.dst (.slice (some ⟨g, 0, none⟩) 2 2)) w') : wpList Tryz.prog ops Q (o :: rest) a w :=
 wpList_one hw fun K hK => by
  have hr := em_lit2 w
  unfold Oper.wp execOp
  simp [ho, hx, hy, Sem.run_bind, hr, Result.andThen]
  exact hK _ _ (h _ _ (hS.alloc _ _))
theorem len2E {α : Type} : ∀ {l : List α}, l.length = 2 → ∃ a b, l = [a, b]
 | [a, b], _ => ⟨a, b, rfl⟩
theorem aliveP {w0 w : World} (hS : St LaidM w0 [] w) : Calls Tryz.prog 21 #[.string ⟨#[100, 97, 109, 97, 103, 101, 32, 116, 97, 114, 103, 101, 116, 49, 32, 51, 59, 32, 100, 114, 97, 119, 32, 121, 111, 117, 32, 49]⟩] w fun e w' => ∃ v1 v2 A c, e = .returned (.tuple #[.slice A 2 c, .int .i64 0]) ∧ St (LaidL A [(E1, v1), (E2, v2)]) w' [] w' ∧ Hid (Below w0.heap.size w0 w') := by
 refine (eParseList_any litL (by decide) (fun x hx => Nat.lt_of_le_of_lt (ssplit_mem _ x hx) (by decide)) w hS.laid).mono ?_
 rintro e w' ⟨hb, h⟩
 rcases h with ⟨h1, _⟩ | ⟨es, v, h1, he, own⟩
 ·rw [alive_list] at h1; cases h1
 ·rw [alive_list] at h1
  have h2 := (Option.some.inj h1).symm
  have hlen := congrArg List.length h2
  rw [List.length_map] at hlen
  obtain ⟨p1, p2, rfl⟩ := len2E hlen
  obtain ⟨p1e, v1⟩ := p1
  obtain ⟨p2e, v2⟩ := p2
  simp only [List.map_cons, List.map_nil, List.cons.injEq, and_true] at h2
  obtain ⟨rfl, rfl⟩ := h2
  obtain ⟨A, c, rfl⟩ := own.form
  exact ⟨v1, v2, A, c, he, St.start ⟨(hS.mono hb).laid, own.arg.2⟩ (keepsLs _ _), Lib.hid (hS.mono hb).below⟩
theorem aliveQ {L : World → Prop} {w0 w : World} {rows : List Row} (hS : St L w0 rows w) (hl : LaidM w) : Calls Tryz.prog 17 #[.string ⟨#[109, 111, 100, 32, 101, 97, 99, 104, 40, 121, 111, 117, 114, 115, 32, 99, 114, 101, 97, 116, 117, 114, 101, 41, 32, 91, 112, 116, 43, 61, 49, 47, 49, 44, 32, 107, 101, 121, 115, 43, 61, 104, 97, 115, 116, 101, 93]⟩] w fun e w' => ∃ (m : Ef) (v : Sl), e = .returned (.tuple #[.agg (Ef.at m ⟨v.a, 2, v.c⟩).cells, .int .i64 0]) ∧ St L w0 rows w' := by
 refine (eParse_any litM (by decide) w hl).mono ?_
 rintro e w' ⟨hb, h⟩
 rcases h with ⟨h1, _⟩ | ⟨m, v, h1, he, hm⟩
 ·rw [alive_parse] at h1; cases h1
 ·rw [alive_parse] at h1
  have h2 := alive_two
  rw [Option.some.inj h1] at h2
  have hn := hm.1
  rw [h2] at hn
  obtain ⟨va, vn, vc⟩ := v
  simp only at hn
  subst hn
  exact ⟨m, ⟨va, 2, vc⟩, he, hS.mono hb⟩
theorem aliveS (v1 v2 : Sl) (A : Option Addr) (c g : Nat) (w : World) (h1 : ArgE A [(E1, v1), (E2, v2)] w) (h2 : w.heap[g]? = some (.cells wantC TEm (0, 0))) : Calls Tryz.prog 25 #[.slice A 2 c, .slice (some ⟨g, 0, none⟩) 2 2] w fun e w' => e = .returned (.bool true) ∧ Below w.heap.size w w' :=
 sameList_any [(E1, v1), (E2, v2)] [(E1, noS), (E2, noS)] A (some ⟨g, 0, none⟩) c 2 true (Lib.hid alive_same) w ⟨h1, want_at h2⟩ (by show 2 < 100000000; decide) (by show 2 < 100000000; decide)
theorem aliveZ (w : World) : Calls Tryz.prog 15 #[.int .i64 4] w fun e w' => e = .returned (.string (B [101, 120, 105, 108, 101])) ∧ Below w.heap.size w w' := zone_B 4 _ (Lib.hid (by decide +kernel)) w
end Go.Proofs.YtdnnbfbhifelkaaGreatDoor
namespace Go.Proofs.YtdnnbfbhifelkaaGreatDoor
attribute [local irreducible] wpList Code.wp Calls wantC
open Go.ChangeShapes Go.WideShapes Go.RowKit
theorem aliveE_any (w0 : World) (hl : LaidM w0) : Calls Tryz.prog 10 #[] w0 fun e w' => e = .returned (.bool true) ∧ Below w0.heap.size w0 w' := by
 have hS := St.start hl keepsM
 go_enter Tryz.func10, Tryz.ntmps10
 go_wp2_with (first | fail | ((refine hot_here rfl ?_); (first | ((with_reducible refine at_build (T := TEm) ?_); refine em_bld3 rfl rfl rfl rfl ?_; (try simp only [put0, put1, put2, put3, put4])) | ((with_reducible refine at_slice1 ?_); refine wpList_want rfl hS rfl rfl rfl ?_; intro gw w hS; (try simp only [put0, put1, put2, put3, put4])) | ((with_reducible refine at_load (T := TEm) ?_); refine wpList_ld_at TEm rfl rfl rfl ((want_at (hS.row (.tail .head))).row (k := 0) (p := (E1, noS)) (Lib.hid rfl)) Tryz.underlying34 rfl em_info ?_; (try simp only [put0, put1, put2, put3, put4])) | ((with_reducible refine at_load (T := 32) ?_); (first | (refine em_ld63 rfl hS rfl rfl (by repeat constructor) ?_)); (try simp only [put0, put1, put2, put3, put4])) | ((with_reducible refine at_alloc ?_); (first | (refine wpList_new 34 rfl hS rfl _ em_new ?_; intro g w hS)); (try simp only [put0, put1, put2, put3, put4])) | ((with_reducible refine rfs_shape_0 ?_); refine rfs_bld_0 rfl rfl ?_; (try simp only [put0, put1, put2, put3, put4])) | ((with_reducible refine rfs_shape_0_1 ?_); refine rfs_bld_0_1 rfl rfl rfl ?_; (try simp only [put0, put1, put2, put3, put4])) | ((with_reducible refine ams_shape_1 ?_); refine ams_bld_1 rfl rfl ?_; (try simp only [put0, put1, put2, put3, put4])) | ((with_reducible refine at_store ?_); (first | (refine em_stw rfl hS rfl rfl rfl (by repeat constructor) ?_; intro w hS)); (try simp only [put0, put1, put2, put3, put4])))) | ((fail_if_success (with_reducible refine wpList_here ?_)); (first | (go_at_call 15; (with_reducible refine (St.call hS fun hl => aliveZ _).mono ?_); rintro e w ⟨rfl, hS⟩) | (go_at_call 11; (with_reducible refine (St.call hS fun hl => eIs_any E1 noS 0 false (Lib.hid alive_is0) _ ⟨hl.1, E1_at _⟩).mono ?_); rintro e w ⟨rfl, hS⟩) | (go_at_call 11; (with_reducible refine (St.call hS fun hl => eIs_any E1 noS 1 true (Lib.hid alive_is1) _ ⟨hl.1, E1_at _⟩).mono ?_); rintro e w ⟨rfl, hS⟩) | (go_at_call 21; (refine (aliveP hS).mono ?_); rintro e w1 ⟨v1, v2, A, c, rfl, hS, HB⟩) | (go_at_call 17; (refine (aliveQ hS hS.laid.1).mono ?_); rintro e w ⟨m, v, rfl, hS⟩) | (go_at_call 25; (refine (St.call hS fun hl => aliveS v1 v2 A c gw _ hl.2 (hS.row (by repeat constructor))).mono ?_); rintro e w ⟨rfl, hS⟩))))
 all_goals go_ret
 all_goals exact ⟨ret_bool (by simp), HB.out.trans (hS.below.mono HB.out.size)⟩
end Go.Proofs.YtdnnbfbhifelkaaGreatDoor
namespace Go.Proofs.YtdnnbfbhifelkaaGreatDoor
attribute [local irreducible] wpList Code.wp Calls
open Go.ChangeShapes Go.WideShapes Go.RowKit
theorem argAt_inL {A : Option Addr} {l : List Md} {w : World} (h : ArgAt A l w) {k : Nat} (hk : k < l.length) : ∃ b off, A = some ⟨b, off, none⟩ := by
 rcases h with rfl | ⟨b, off, e, _⟩
 ·simp at hk
 ·exact ⟨b, off, e⟩
theorem argAt_cell {b off : Nat} {l : List Md} {w : World} (h : ArgAt (some ⟨b, off, none⟩) l w) {k : Nat} {m : Md} (hk : Hid (l[k]? = some m)) (j : Nat) {v : Value} (hj : m.cells[j]? = some v) : w.cell? ⟨b, off + k * 20 + j, none⟩ = some v := by
 rcases h with rfl | ⟨b, off, e, hm⟩
 ·have := hk.out; simp at this
 ·injection e with e
  injection e with e1 e2
  subst e1 e2
  exact hm k m hk.out j v (by simpa using hj)
theorem r17Light_walk (op : Int) (ref : Rf) (amt : Am) (ctr zone : Int) (card : ByteArray) (flt : Flt) (pool : Po) (mods : List Md) (va : Option Addr) (N vc : Nat) (HN : Hid (mods.length = N)) (w0 : World) (hl : ModsAt0 ⟨op, ref, amt, ctr, zone, card, flt, pool, mods⟩ ⟨va, N, vc⟩ w0) : Calls Tryz.prog 9 #[.agg (Em.cells ⟨op, ref, amt, ctr, zone, card, flt, pool, ⟨va, N, vc⟩⟩)] w0 fun x w' => (∃ b, x = .returned (.bool b) ∧ (b = true → N ≤ 20)) ∧ Below w0.heap.size w0 w' := by
 have hS := St.start (L := ModsAt0 ⟨op, ref, amt, ctr, zone, card, flt, pool, mods⟩ ⟨va, N, vc⟩) hl (fun _ _ h hb => h.keep hb)
 have hmx : N ≤ 9223372036854775807 := by
  have := hl.2.1
  simp only at this
  rwa [HN.out] at this
 go_enter Tryz.func9, Tryz.ntmps9
 go_wp2_with (first | fail | ((refine hot_here rfl ?_); (first | ((with_reducible refine at_guard ?_); (first | (refine wpList_pass rfl ?_) | ((fail_if_success refine wpList_wanted rfl ?_); refine wpList_ask _ _ rfl rfl (fun hb => ?_) (fun hb => ?_) <;> (first | (obtain rfl := eq_of_beq hb) | (simp only [hb])))); (try simp only [put0, put1, put2, put3, put4])) | ((with_reducible refine at_load (T := 9) ?_); (first | (refine em_ld40 rfl hS rfl rfl (by repeat constructor) ?_) | (refine em_ldd10 rfl hS rfl rfl (by repeat constructor) ?_) | (refine em_ldd29 rfl hS rfl rfl (by repeat constructor) ?_) | (refine em_ldd48 rfl hS rfl rfl (by repeat constructor) ?_)); (try simp only [put0, put1, put2, put3, put4])) | ((with_reducible refine at_load (T := 32) ?_); (first | (refine em_ld63 rfl hS rfl rfl (by repeat constructor) ?_)); (try simp only [put0, put1, put2, put3, put4])) | ((with_reducible refine at_box ?_); (first | (refine wpList_box_agg rfl hS rfl rfl ?_; intro g w hS)); (try simp only [put0, put1, put2, put3, put4])))) | ((fail_if_success (with_reducible refine wpList_here ?_)); (first | fail)))
 all_goals first
  | (go_ret; exact ⟨⟨_, rfl, by simp⟩, hS.below⟩)
  | skip
 have h20 : N ≤ 20 := by omega
 go_loopw [3] (fun iv wr => ∃ k : Nat, k ≤ N ∧ iv = .int .i64 k ∧ Hid (St (ModsAt0 ⟨op, ref, amt, ctr, zone, card, flt, pool, mods⟩ ⟨va, N, vc⟩) w0 [(g, Em.cells ⟨op, ref, amt, ctr, zone, card, flt, pool, ⟨va, N, vc⟩⟩, 34)] wr)) (fun iv _ => N - (intOf iv).toNat)
 case atStart => exact ⟨0, by omega, rfl, Lib.hid hS⟩
 case round =>
  clear hS
  obtain ⟨k, hk, rfl, HS⟩ := hrel
  have hS := HS.out
  clear HS
  by_cases hlt : k < N
  ·obtain ⟨m, hm⟩ : ∃ m, mods[k]? = some m := ⟨mods[k]'(by rw [HN.out]; exact hlt), List.getElem?_eq_getElem _⟩
   obtain ⟨mk, mn, mm, ms, mf⟩ := m
   obtain ⟨f1, f2, f3, f4, f5, f6, f7, fs, f9, f10, f11, f12, f13, f14, f15, f16⟩ := mf
   obtain ⟨b1, o1, rfl⟩ := argAt_inL hS.laid.2.2 (by rw [HN.out]; exact hlt)
   have HM := Lib.hid hm
   clear hm
   go_wp2_with (first | fail | ((refine hot_here rfl ?_); (first | ((with_reducible refine at_guard ?_); (first | (refine wpList_pass rfl ?_) | ((fail_if_success refine wpList_wanted rfl ?_); refine wpList_ask _ _ rfl rfl (fun hb => ?_) (fun hb => ?_) <;> (first | (obtain rfl := eq_of_beq hb) | (simp only [hb])))); (try simp only [put0, put1, put2, put3, put4])) | ((with_reducible refine at_load ?_); refine wpList_ld_out rfl rfl rfl (argAt_cell (v := .string ms) hS.laid.2.2 HM 3 rfl) ?_; (try simp only [put0, put1, put2, put3, put4])) | ((with_reducible refine at_load ?_); refine wpList_ld_out rfl rfl rfl (argAt_cell (v := .string fs) hS.laid.2.2 HM 11 rfl) ?_; (try simp only [put0, put1, put2, put3, put4])) | ((with_reducible refine at_load (T := 32) ?_); (first | (refine em_ld63 rfl hS rfl rfl (by repeat constructor) ?_)); (try simp only [put0, put1, put2, put3, put4])))) | ((fail_if_success (with_reducible refine wpList_here ?_)); (first | fail)))
   all_goals first
    | (go_ret; exact ⟨⟨_, rfl, by simp⟩, hS.below⟩)
    | (go_roundw; (case rel => exact ⟨k + 1, by omega, by go_num, Lib.hid hS⟩); (case measure => simp [intOf]; omega))
  ·obtain rfl : k = N := by omega
   go_wp2_with (first | fail | ((refine hot_here rfl ?_); (first | ((with_reducible refine at_load (T := 32) ?_); (first | (refine em_ld63 rfl hS rfl rfl (by repeat constructor) ?_)); (try simp only [put0, put1, put2, put3, put4])))) | ((fail_if_success (with_reducible refine wpList_here ?_)); (first | fail)))
   all_goals go_ret
   all_goals exact ⟨⟨_, rfl, fun _ => h20⟩, hS.below⟩
theorem r17Light_any (e : Ef) (v : Sl) (w : World) (hl : ModsAt0 e v w) : Calls Tryz.prog 9 #[.agg (e.at v).cells] w fun x w' => (∃ b, x = .returned (.bool b) ∧ (b = true → e.mods.length ≤ 20)) ∧ Below w.heap.size w w' := by
 obtain ⟨op, ref, amt, ctr, zone, card, flt, pool, mods⟩ := e
 obtain ⟨va, vn, vc⟩ := v
 have hvn := hl.1
 simp only at hvn
 subst hvn
 exact r17Light_walk op ref amt ctr zone card flt pool mods va _ vc (Lib.hid rfl) w hl
end Go.Proofs.YtdnnbfbhifelkaaGreatDoor
