/- Walks: package effect: Text. Conditions: LaidM; the modifications lie where the slice says. -/
import Derived.Test.YtdnnbfbhifelkaaGreatDoorQ8
import Derived.Test.YtdnnbfbhifelkaaGreatDoorMEMem
import Derived.Test.YtdnnbfbhifelkaaGreatDoorQ3
import Derived.Test.YtdnnbfbhifelkaaGreatDoorQ9
import Derived.Test.YtdnnbfbhifelkaaGreatDoorMSText
set_option linter.all false
set_option maxRecDepth 100000
set_option maxHeartbeats 16000000
namespace Go.Proofs.YtdnnbfbhifelkaaGreatDoor
attribute [local irreducible] wpList Code.wp Calls
open Go.ChangeShapes Go.WideShapes Go.RowKit
section
variable {L : World → Prop} {w0 w : World} {rows : List Row} {ops : Array Oper} {rest : List Oper} {o : Oper} {a : Act} {Q : Exit → Act → World → Prop}
theorem wpList_lit1 {x : Operand} (ho : o.op = .buildSlice TSs 1 #[(0, x)]) (hS : St L w0 rows w) (hw : Region.wanted o (yielded ops a.tmps) = true) {s : ByteArray} (hx : a.eval x = .string s)
 (h : ∀ g w', St L w0 ((g, #[.string s], 9) :: rows) w' → wpList Tryz.prog ops Q rest (a.put o.dst (.slice (some ⟨g, 0, none⟩) 1 1)) w') : wpList Tryz.prog ops Q (o :: rest) a w :=
 wpList_one hw fun K hK => by
  have hr : (Instr.buildSlice TSs 1 #[(0, .string s)]).run Tryz.prog w = .ok (.slice (some ⟨w.heap.size, 0, none⟩) 1 1) (w.alloc (.cells #[.string s] 9)) := by
   kernel_rfl
  unfold Oper.wp execOp
  simp [ho, hx, Sem.run_bind, hr, Result.andThen]
  exact hK _ _ (h _ _ (hS.alloc _ _))
theorem wpList_new1 (T : Nat) (v : Value) (ho : o.op = .alloc T) (hS : St L w0 rows w) (hw : Region.wanted o (yielded ops a.tmps) = true) (hz : ∀ w, (zeroValue T).run Tryz.prog w = .ok v w) (hv : v.cells = #[v])
 (h : ∀ g w', St L w0 ((g, #[v], T) :: rows) w' → wpList Tryz.prog ops Q rest (a.put o.dst (.pointer (some ⟨g, 0, none⟩))) w') : wpList Tryz.prog ops Q (o :: rest) a w :=
 wpList_one hw fun K hK => by
  unfold Oper.wp execOp
  simp only [ho, Instr.alloc, newVar, newRow, Sem.run_bind, hz, Result.andThen_ok, hv]
  exact hK _ _ (h _ _ (hS.alloc #[v] T))
theorem zeroTS : ∀ w : World, (zeroValue TSs).run Tryz.prog w = .ok (.slice none 0 0) w := fun _ => by kernel_rfl
theorem infoTS : (Tryz.prog.info? TSs).map (·.size) = some 1 := by kernel_rfl
theorem scalTS : ∃ d, Tryz.prog.underlying TSs = some d ∧ d.isRow = false := ⟨_, Tryz.underlying65, rfl⟩
theorem wpList_stS {x y : Operand} (ho : o.op = .store TSs x y) (hS : St L w0 rows w) (hw : Region.wanted o (yielded ops a.tmps) = true) {g : Nat} (hx : a.eval x = .pointer (some ⟨g, 0, none⟩)) {A : Option Addr} {n c : Nat} (hy : a.eval y = .slice A n c) {v0 : Value} {rows' : List Row}
 (hm : RowSet g #[v0] #[.slice A n c] TSs rows rows') (h : ∀ w', St L w0 rows' w' → wpList Tryz.prog ops Q rest (a.put o.dst undef) w') : wpList Tryz.prog ops Q (o :: rest) a w :=
 wpList_st ho hS hw hx hy hm (Nat.le_of_ble_eq_true rfl) rfl infoTS (by simp [Value.cells, Value.oneCell']) h
variable {dst : Option Tmp} {ty : TypeId} {pos : String} {af : Array Edge} {gd : Option (Nat × Bool)}
theorem at_slit {T k : Nat} {ps : Array (Nat × Operand)} (h : wpList Tryz.prog ops Q ((⟨dst, .buildSlice T k ps, ty, pos, af, gd⟩ : Oper) :: rest) a w) : wpList Tryz.prog ops Q ((⟨dst, .buildSlice T k ps, ty, pos, af, gd⟩ : Oper) :: rest) a w := h
end
theorem WK.start {L : World → Prop} {w0 w : World} {rows : List Row} {g gw : Nat} {s : Str} (hS : St L w0 ((g, #[.slice (some ⟨gw, 0, none⟩) 1 1], TSs) :: (gw, #[.string (B s)], 9) :: rows) w) : WK w0.heap.size g gw (.slice (some ⟨gw, 0, none⟩) 1 1) #[.string (B s)] [s] 1 := by
 have hb := (hS.has _ (.head _)).2
 have hb2 := (hS.has _ (.tail _ (.head _))).2
 refine ⟨by simp, by simp, ⟨_, _, rfl⟩, fun w' a1 a2 => ?_⟩
 have ht : Texts w' w0.heap.size [s] (.slice (some ⟨gw, 0, none⟩) 1 1) := by
  exact ⟨rfl, .inr ⟨gw, 1, _, rfl, hb2, a2, by simp, by unfold maxLen; decide, rfl, rfl⟩⟩
 exact ⟨⟨_, a1, hb, ht⟩, ht⟩
theorem rfText_B (r : Rf) (T : Str) (h : Hid (refText r = T)) (w : World) (hl : Laid w) : Calls Tryz.prog 39 #[.agg r.cells] w fun e w' => e = .returned (.string (B T)) ∧ Below w.heap.size w w' := rfText_is r (B T) (Lib.hid (by rw [h.out])) w hl
theorem amText_B (a : Am) (T : Str) (h : Hid (amText a = T)) (w : World) (hl : LaidM w) : Calls Tryz.prog 41 #[.agg a.cells] w fun e w' => e = .returned (.string (B T)) ∧ Below w.heap.size w w' := aText_is a (B T) (Lib.hid (by rw [h.out])) w hl
theorem cntNameE_B (c : Int) (T : Str) (h : Hid (cntText c = T)) (w : World) (hl : LaidM w) : Calls Tryz.prog 40 #[.int .i64 c] w fun e w' => e = .returned (.string (B T)) ∧ w = w' := cntName_is c (B T) (Lib.hid (by rw [h.out])) w hl
theorem fltText_B (f : Flt) (T : Str) (h : Hid (textOf f = T)) (w : World) (hl : Laid w) : Calls Tryz.prog 44 #[.agg f.cells] w fun e w' => e = .returned (.string (B T)) ∧ Below w.heap.size w w' :=
 (fltText_v f w hl).mono fun e w' h' => ⟨h'.1.trans (by rw [h.out]), h'.2⟩
theorem zone_B (z : Int) (T : Str) (h : Hid (zoneName z = T)) (w : World) : Calls Tryz.prog 15 #[.int .i64 z] w fun e w' => e = .returned (.string (B T)) ∧ Below w.heap.size w w' :=
 (zone_any z w).mono fun e w' h' => ⟨h'.1.trans (by rw [h.out]), h'.2⟩
theorem eName_B (op : Int) (T : Str) (h : Hid (opName op = T)) (w : World) (hl : Laid w) : Calls Tryz.prog 26 #[.int .i64 op] w fun e w' => e = .returned (.string (B T)) ∧ Below w.heap.size w w' :=
 (eName_any op w hl).mono fun e w' h' => ⟨h'.1.trans (by rw [h.out]), h'.2⟩
theorem eOf_is (op : Int) (u : Us) (h : Hid (usOf op = u)) (w : World) (hl : Laid w) : Calls Tryz.prog 28 #[.int .i64 op] w fun e w' => e = .returned (.agg (Us.cells u)) ∧ Below w.heap.size w w' :=
 (eOf_any op w hl).mono fun e w' h' => ⟨h'.1.trans (by rw [h.out]), h'.2⟩
theorem wordJoinE (l : List Str) (A : Option Addr) (c base : Nat) (w : World) (h : Texts w base l (.slice A l.length c)) (hN : l.length ≤ 100000000) (hlen : (Lib.join l [32]).length ≤ 140737488355328) :
 Calls Tryz.prog 45 #[.slice A l.length c, .string ⟨#[32]⟩] w fun e w' => e = .returned (.string (B (Lib.join l [32]))) ∧ Below w.heap.size w w' := by
 go_enter Tryz.func45, Tryz.ntmps45
 go_wp2_with (go_at_call 77; (with_reducible refine (join_any _ _ _ _ _ _ h hN [32] rfl hlen).mono ?_); rintro e w2 ⟨rfl, hb2⟩)
 go_ret
 exact ⟨rfl, hb2⟩
theorem WK.fin {base g gw : Nat} {v : Value} {cur : Array Value} {l : List Str} {k : Nat} (h : WK base g gw v cur l k) : ∃ (n : Nat) (A : Option Addr) (c : Nat), v = .slice A n c ∧ Hid (l.length = n) := by
 obtain ⟨A, c, e⟩ := h.form
 exact ⟨_, A, c, e, Lib.hid rfl⟩
theorem wordJoinF {base g gw : Nat} {cur : Array Value} {l : List Str} {k n : Nat} {A : Option Addr} {c : Nat} (HW : Hid (WK base g gw (.slice A n c) cur l k)) (hn : Hid (l.length = n)) (w : World) (h1 : w.heap[g]? = some (.cells #[.slice A n c] TSs (0, 0))) (h2 : w.heap[gw]? = some (.cells cur 9 (0, 0))) (hk : k < 1000) (hlen : (Lib.join l [32]).length ≤ 140737488355328) :
 Calls Tryz.prog 45 #[.slice A n c, .string ⟨#[32]⟩] w fun e w' => e = .returned (.string (B (Lib.join l [32]))) ∧ Below w.heap.size w w' := by
 obtain rfl := hn.out
 exact wordJoinE l A c base w ((HW.out.back w h1 h2).2) (by have := HW.out.len; omega) hlen
theorem eText_walk (op : Int) (ref : Rf) (amt : Am) (ctr zone : Int) (card : Str) (flt : Flt) (pool : Po) (mods : List Md) (va : Option Addr) (vn vc : Nat)
 (hIs : ∀ w, LaidE ⟨op, ref, amt, ctr, zone, B card, flt, pool, mods⟩ ⟨va, vn, vc⟩ w → Calls Tryz.prog 11 #[.agg (Em.cells ⟨op, ref, amt, ctr, zone, B card, flt, pool, ⟨va, vn, vc⟩⟩), .int .i64 4] w fun e w' => e = .returned (.bool true) ∧ Below w.heap.size w w')
 (hv : eIs ⟨op, ref, amt, ctr, zone, B card, flt, pool, mods⟩ 4 = true) (w0 : World) (hl : LaidE ⟨op, ref, amt, ctr, zone, B card, flt, pool, mods⟩ ⟨va, vn, vc⟩ w0) :
 Calls Tryz.prog 13 #[.agg (Em.cells ⟨op, ref, amt, ctr, zone, B card, flt, pool, ⟨va, vn, vc⟩⟩)] w0 fun e w' => e = .returned (.string (B (Lib.join (eWords ⟨op, ref, amt, ctr, zone, B card, flt, pool, mods⟩) [32]))) ∧ Below w0.heap.size w0 w' := by
 have hj := eJoin_len hv
 have l1 := refText_len ref
 have l2 := amText_len amt
 have l3 := mlText_len mods
 have l4 := textOf_len (f := flt)
 obtain ⟨U, hU⟩ : ∃ U, usOf op = U := ⟨_, rfl⟩
 obtain ⟨N0, hN⟩ : ∃ T, opName op = T := ⟨_, rfl⟩
 obtain ⟨T1, hT1⟩ : ∃ T, refText ref = T := ⟨_, rfl⟩
 obtain ⟨T2, hT2⟩ : ∃ T, amText amt = T := ⟨_, rfl⟩
 obtain ⟨T3, hT3⟩ : ∃ T, cntText ctr = T := ⟨_, rfl⟩
 obtain ⟨T4, hT4⟩ : ∃ T, zoneName zone = T := ⟨_, rfl⟩
 obtain ⟨T6, hT6⟩ : ∃ T, textOf flt = T := ⟨_, rfl⟩
 obtain ⟨T7, hT7⟩ : ∃ T, poText pool = T := ⟨_, rfl⟩
 obtain ⟨T8, hT8⟩ : ∃ T, mlText mods = T := ⟨_, rfl⟩
 obtain ⟨u1, u2, u3, u4, u5, u6, u7, u8⟩ := U
 have hW : eWords ⟨op, ref, amt, ctr, zone, B card, flt, pool, mods⟩ = [N0] ++ opt u1 T1 ++ opt u4 T4 ++ opt u3 T3 ++ opt u5 card ++ opt u2 T2 ++ opt u8 ([91] ++ T8 ++ [93]) ++ opt u7 T7 ++ opt u6 ([40] ++ T6 ++ [41]) := by
  have h1 : uR op = u1 := congrArg Us.ref hU
  have h2 : uA op = u2 := congrArg Us.amt hU
  have h3 : uK op = u3 := congrArg Us.ctr hU
  have h4 : uZ op = u4 := congrArg Us.zone hU
  have h5 : uC op = u5 := congrArg Us.card hU
  have h6 : uF op = u6 := congrArg Us.flt hU
  have h7 : uP op = u7 := congrArg Us.pool hU
  have h8 : uM op = u8 := congrArg Us.mods hU
  unfold eWords modsS fltS
  simp only
  rw [h1, h2, h3, h4, h5, h6, h7, h8, hN, hT1, hT2, hT3, hT4, hT6, hT7, hT8, L_B]
  simp
 rw [hT1] at l1
 rw [hT2] at l2
 rw [hT8] at l3
 rw [hT6] at l4
 rw [hW] at hj ⊢
 have HJ := Lib.hid hj
 have GU := Lib.hid hU
 have GN := Lib.hid hN
 have G1 := Lib.hid hT1
 have G2 := Lib.hid hT2
 have G3 := Lib.hid hT3
 have G4 := Lib.hid hT4
 have G6 := Lib.hid hT6
 have G7 := Lib.hid hT7
 have G8 := Lib.hid hT8
 clear hj hU hN hT1 hT2 hT3 hT4 hT6 hT7 hT8 hW hv
 have hS := St.start hl (keepsE _ _)
 go_enter Tryz.func13, Tryz.ntmps13
 go_wp2_with (first | fail | ((refine hot_here rfl ?_); (first | ((with_reducible refine at_slit ?_); refine wpList_lit1 rfl hS rfl rfl ?_; intro g w hS) | ((with_reducible refine at_alloc ?_); refine wpList_new1 TSs (.slice none 0 0) rfl hS rfl zeroTS rfl ?_; intro g w hS) | ((with_reducible refine at_alloc ?_); refine wpList_new 57 rfl hS rfl _ us_new ?_; intro g w hS) | ((with_reducible refine at_store ?_); refine us_stw rfl hS rfl rfl rfl .head ?_; intro w hS) | ((with_reducible refine at_store ?_); refine wpList_stS rfl hS rfl rfl rfl .head ?_; intro w hS; have HW := Lib.hid (WK.start hS)) | ((with_reducible refine at_load (T := TSs) ?_); obtain ⟨n0, A0, c0, hv0, HN0⟩ := HW.out.fin; subst hv0; refine wpList_ld_cell rfl hS rfl rfl .head scalTS rfl ?_; (try simp only [put0, put1, put2, put3, put4])) | ((with_reducible refine at_load (T := 4) ?_); (first | (refine us_ld4 rfl hS rfl rfl (by repeat constructor) ?_)); (try simp only [put0, put1, put2, put3, put4])) | ((with_reducible refine at_load (T := 34) ?_); (first | (refine em_ldw rfl hS rfl rfl (by repeat constructor) ?_)); (try simp only [put0, put1, put2, put3, put4])) | ((with_reducible refine at_load (T := 3) ?_); (first | (refine em_ld0 rfl hS rfl rfl (by repeat constructor) ?_)); (try simp only [put0, put1, put2, put3, put4])) | ((with_reducible refine at_load (T := 9) ?_); (first | (refine em_ld40 rfl hS rfl rfl (by repeat constructor) ?_)); (try simp only [put0, put1, put2, put3, put4])) | ((with_reducible refine at_box ?_); (first | (refine wpList_box_agg rfl hS rfl rfl ?_; intro g w hS)); (try simp only [put0, put1, put2, put3, put4])))) | ((fail_if_success (with_reducible refine wpList_here ?_)); (first | (go_at_call 11; (with_reducible refine (St.call hS fun hl => hIs _ hl).mono ?_); rintro e w ⟨rfl, hS⟩) | (go_at_call 28; (with_reducible refine (St.call hS fun hl => eOf_is _ _ GU _ hl.1.base).mono ?_); rintro e w ⟨rfl, hS⟩) | (go_at_call 26; (with_reducible refine (St.call hS fun hl => eName_B _ _ GN _ hl.1.base).mono ?_); rintro e w ⟨rfl, hS⟩) | (go_at_call 45; (with_reducible refine (St.call hS fun hl => wordJoinF HW HN0 _ (hS.row .head) (hS.row (.tail .head)) (by decide) (Nat.le_trans HJ.out (by decide))).mono ?_); rintro e w ⟨rfl, hS⟩) | (go_at_call 38; (with_reducible refine (eAdd_st _ _ hS HW (by decide) (by simp [TSs])).mono ?_); rintro e w ⟨rfl, v1, gw1, cur1, hS, HW⟩) | ((with_reducible refine region_here ?_); refine wp_region_X1 6 rfl hS (by kernel_rfl) (by kernel_rfl) (by kernel_rfl) (by decide +kernel) (by kernel_rfl) ?_; (simp only [List.take_succ_cons, List.take_zero, List.drop_succ_cons, List.drop_zero])) | ((with_reducible refine region_here ?_); refine wp_region_X1 8 rfl hS (by kernel_rfl) (by kernel_rfl) (by kernel_rfl) (by decide +kernel) (by kernel_rfl) ?_; (simp only [List.take_succ_cons, List.take_zero, List.drop_succ_cons, List.drop_zero])) | ((with_reducible refine xat_nil ?_); refine runX_end ?_; intro w hS) | ((with_reducible refine xat_cat ?_); (first | (refine runX_cat rfl rfl rfl rfl (by (try simp only [List.length_append, List.length_cons, List.length_nil]); omega) (fun _ _ _ h => h) ?_)); (try simp only [put0, put1, put2, put3, put4])) | ((with_reducible refine xat_load ?_); (first | (refine us_xl0 rfl rfl (by decide +kernel) rfl (by repeat constructor) (fun _ _ _ h => h) ?_) | (refine us_xl1 rfl rfl (by decide +kernel) rfl (by repeat constructor) (fun _ _ _ h => h) ?_) | (refine us_xl2 rfl rfl (by decide +kernel) rfl (by repeat constructor) (fun _ _ _ h => h) ?_) | (refine us_xl3 rfl rfl (by decide +kernel) rfl (by repeat constructor) (fun _ _ _ h => h) ?_) | (refine us_xl5 rfl rfl (by decide +kernel) rfl (by repeat constructor) (fun _ _ _ h => h) ?_) | (refine us_xl6 rfl rfl (by decide +kernel) rfl (by repeat constructor) (fun _ _ _ h => h) ?_) | (refine us_xl7 rfl rfl (by decide +kernel) rfl (by repeat constructor) (fun _ _ _ h => h) ?_) | (refine em_xl1 rfl rfl (by decide +kernel) rfl (by repeat constructor) (fun _ _ _ h => h) ?_) | (refine em_xl19 rfl rfl (by decide +kernel) rfl (by repeat constructor) (fun _ _ _ h => h) ?_) | (refine em_xl38 rfl rfl (by decide +kernel) rfl (by repeat constructor) (fun _ _ _ h => h) ?_) | (refine em_xl39 rfl rfl (by decide +kernel) rfl (by repeat constructor) (fun _ _ _ h => h) ?_) | (refine em_xl41 rfl rfl (by decide +kernel) rfl (by repeat constructor) (fun _ _ _ h => h) ?_) | (refine em_xl57 rfl rfl (by decide +kernel) rfl (by repeat constructor) (fun _ _ _ h => h) ?_) | (refine em_xl63 rfl rfl (by decide +kernel) rfl (by repeat constructor) (fun _ _ _ h => h) ?_)); (try simp only [put0, put1, put2, put3, put4])) | ((with_reducible refine xat_call ?_); (first | (refine runX_call (v := ?_) (args := ?_) 39 rfl (fun _ _ _ h => h) (by decide +kernel) ?_ ?_ ?_; rotate_left 2; (focus ((intro w; go_simp) <;> with_reducible rfl)); (focus (intro X w hS; refine St.callE hS (fun hl => rfText_B _ _ G1 _ hl.1.base) ?_; with_reducible rfl))) | (refine runX_call (v := ?_) (args := ?_) 41 rfl (fun _ _ _ h => h) (by decide +kernel) ?_ ?_ ?_; rotate_left 2; (focus ((intro w; go_simp) <;> with_reducible rfl)); (focus (intro X w hS; refine St.callE hS (fun hl => amText_B _ _ G2 _ hl.1) ?_; with_reducible rfl))) | (refine runX_call (v := ?_) (args := ?_) 40 rfl (fun _ _ _ h => h) (by decide +kernel) ?_ ?_ ?_; rotate_left 2; (focus ((intro w; go_simp) <;> with_reducible rfl)); (focus (intro X w hS; refine St.stillE hS (fun hl => cntNameE_B _ _ G3 _ hl.1) ?_; with_reducible rfl))) | (refine runX_call (v := ?_) (args := ?_) 15 rfl (fun _ _ _ h => h) (by decide +kernel) ?_ ?_ ?_; rotate_left 2; (focus ((intro w; go_simp) <;> with_reducible rfl)); (focus (intro X w hS; refine St.callE hS (fun hl => zone_B _ _ G4 _) ?_; with_reducible rfl))) | (refine runX_call (v := ?_) (args := ?_) 44 rfl (fun _ _ _ h => h) (by decide +kernel) ?_ ?_ ?_; rotate_left 2; (focus ((intro w; go_simp) <;> with_reducible rfl)); (focus (intro X w hS; refine St.callE hS (fun hl => fltText_B _ _ G6 _ hl.1.base) ?_; with_reducible rfl))) | (refine runX_call (v := ?_) (args := ?_) 43 rfl (fun _ _ _ h => h) (by decide +kernel) ?_ ?_ ?_; rotate_left 2; (focus ((intro w; go_simp) <;> with_reducible rfl)); (focus (intro X w hS; refine St.callE hS (fun hl => poText_is _ _ G7 _ hl.1.base) ?_; with_reducible rfl))) | (refine runX_call (v := ?_) (args := ?_) 42 rfl (fun _ _ _ h => h) (by decide +kernel) ?_ ?_ ?_; rotate_left 2; (focus ((intro w; go_simp) <;> with_reducible rfl)); (focus (intro X w hS; refine St.callE hS (fun hl => listText_e ⟨op, ref, amt, ctr, zone, B card, flt, pool, mods⟩ ⟨va, vn, vc⟩ _ G8 _ hl) ?_; with_reducible rfl)))); (try simp only [put0, put1, put2, put3, put4])) | ((with_reducible refine xat_any ?_); (refine runX_pure (v := ?_) rfl (fun _ _ _ h => h) ?_ ?_; rotate_left; (focus ((intro w; go_simp) <;> with_reducible rfl))); (try simp only [put0, put1, put2, put3, put4])))))
 all_goals go_ret
 all_goals exact ⟨ret_B (by simp), hS.below⟩
end Go.Proofs.YtdnnbfbhifelkaaGreatDoor
