/- Walks: package effect: whole, Is. Conditions: LaidM; the modifications lie where the slice says. Walks: package effect: Text, whole; inner; the closure of guess. Conditions: LaidM; the modification -/
import Derived.Test.YtdnnbfbhifelkaaGreatDoorMEWhW
import Derived.Test.YtdnnbfbhifelkaaGreatDoorQ8
import Derived.Test.YtdnnbfbhifelkaaGreatDoorMEText
import Derived.Test.YtdnnbfbhifelkaaGreatDoorMSText
import Derived.Test.YtdnnbfbhifelkaaGreatDoorQ9
import Derived.Test.YtdnnbfbhifelkaaGreatDoorQ5
set_option linter.all false
set_option maxRecDepth 100000
set_option maxHeartbeats 16000000
namespace Go.Proofs.YtdnnbfbhifelkaaGreatDoor
attribute [local irreducible] wpList Code.wp Calls refIs amIs fltIs mlText poText cntText isName fRef fAmt fCtr fZone fCard fFlt fPool fMods rfEq amEq fltEq poEq textOf
open Go.ChangeShapes Go.WideShapes Go.RowKit
theorem whole_is (op : Int) (ref : Rf) (amt : Am) (ctr zone : Int) (card : Str) (flt : Flt) (pool : Po) (mods : List Md) (va : Option Addr) (vn vc : Nat) (specs : Int) (R : Bool) (HR : Hid (fWhole ⟨op, ref, amt, ctr, zone, B card, flt, pool, mods⟩ specs = R)) (U : Us) (HU : Hid (usOf op = U)) (w : World) (hl : LaidE ⟨op, ref, amt, ctr, zone, B card, flt, pool, mods⟩ ⟨va, vn, vc⟩ w) :
 Calls Tryz.prog 27 #[.agg (Em.cells ⟨op, ref, amt, ctr, zone, B card, flt, pool, ⟨va, vn, vc⟩⟩), .agg (Us.cells U), .int .i64 specs] w fun e w' => e = .returned (.bool R) ∧ Below w.heap.size w w' := by
 rw [← HU.out, ← HR.out]
 exact whole_any op ref amt ctr zone card flt pool mods va vn vc specs w hl
theorem eNameI_B (op : Int) (T : Str) (h : Hid (opName op = T)) (w : World) (hl : Laid w) : Calls Tryz.prog 26 #[.int .i64 op] w fun e w' => e = .returned (.string (B T)) ∧ Below w.heap.size w w' :=
 (eName_any op w hl).mono fun e w' h' => ⟨h'.1.trans (by rw [h.out]), h'.2⟩
theorem eOfI_is (op : Int) (u : Us) (h : Hid (usOf op = u)) (w : World) (hl : Laid w) : Calls Tryz.prog 28 #[.int .i64 op] w fun e w' => e = .returned (.agg (Us.cells u)) ∧ Below w.heap.size w w' :=
 (eOf_any op w hl).mono fun e w' h' => ⟨h'.1.trans (by rw [h.out]), h'.2⟩
theorem eIs_walk (op : Int) (ref : Rf) (amt : Am) (ctr zone : Int) (card : Str) (flt : Flt) (pool : Po) (mods : List Md) (va : Option Addr) (vn vc : Nat) (specs : Int) (w0 : World) (hl : LaidE ⟨op, ref, amt, ctr, zone, B card, flt, pool, mods⟩ ⟨va, vn, vc⟩ w0) :
 Calls Tryz.prog 11 #[.agg (Em.cells ⟨op, ref, amt, ctr, zone, B card, flt, pool, ⟨va, vn, vc⟩⟩), .int .i64 specs] w0 fun e w' => e = .returned (.bool (eIs ⟨op, ref, amt, ctr, zone, B card, flt, pool, mods⟩ specs)) ∧ Below w0.heap.size w0 w' := by
 obtain ⟨U, hU⟩ : ∃ U, usOf op = U := ⟨_, rfl⟩
 obtain ⟨N0, hN⟩ : ∃ T, opName op = T := ⟨_, rfl⟩
 obtain ⟨R, hR⟩ : ∃ R, fWhole ⟨op, ref, amt, ctr, zone, B card, flt, pool, mods⟩ specs = R := ⟨_, rfl⟩
 have hE : eIs ⟨op, ref, amt, ctr, zone, B card, flt, pool, mods⟩ specs = (!(N0 == []) && R) := by unfold eIs; simp only; rw [hN, hR]
 rw [hE]
 have GU := Lib.hid hU
 have GN := Lib.hid hN
 have GR := Lib.hid hR
 clear hU hN hR hE
 obtain ⟨q, hq⟩ : ∃ q, (N0 == []) = q := ⟨_, rfl⟩
 have hq2 : (N0 != []) = !q := by rw [← hq]; rfl
 rw [hq]
 have hS := St.start hl (keepsE _ _)
 cases q
 all_goals
  go_enter Tryz.func11, Tryz.ntmps11
  go_wp2_with (first | ((first | (with_reducible refine wpList_here ?_) | (with_reducible refine region_here ?_)); (have hq := str_eq (by assumption); subst hq)) | ((with_reducible refine at_box ?_); (first | (refine wpList_box_agg rfl hS rfl rfl ?_; intro g w hS)); (try simp only [put0, put1, put2, put3, put4])) | ((with_reducible refine region_here ?_); refine wp_region_St hS (by kernel_rfl) (by kernel_rfl) ?_) | ((with_reducible refine runS_end ?_); intro w hS) | ((with_reducible refine rat_guard ?_); (first | (refine runS_pass rfl (fun _ _ _ h => h) ?_)); (try simp only [put0, put1, put2, put3, put4])) | ((with_reducible refine rat_load ?_); (first | (refine em_rlw rfl rfl rfl (by repeat constructor) (fun _ _ _ h => h) ?_) | (refine em_rl0 rfl rfl rfl (by repeat constructor) (fun _ _ _ h => h) ?_)); (try simp only [put0, put1, put2, put3, put4])) | ((with_reducible refine rat_call ?_); (first | (refine runS_call (v := ?_) (args := ?_) 26 rfl (fun _ _ _ h => h) ?_ ?_ ?_; rotate_left 2; (focus ((intro w; go_simp) <;> with_reducible rfl)); (focus (intro w hS; refine St.callE hS (fun hl => eNameI_B _ _ GN _ hl.1.base) ?_; with_reducible rfl))) | (refine runS_call (v := ?_) (args := ?_) 28 rfl (fun _ _ _ h => h) ?_ ?_ ?_; rotate_left 2; (focus ((intro w; go_simp) <;> with_reducible rfl)); (focus (intro w hS; refine St.callE hS (fun hl => eOfI_is _ _ GU _ hl.1.base) ?_; with_reducible rfl))) | (refine runS_call (v := ?_) (args := ?_) 27 rfl (fun _ _ _ h => h) ?_ ?_ ?_; rotate_left 2; (focus ((intro w; go_simp) <;> with_reducible rfl)); (focus (intro w hS; refine St.callE hS (fun hl => whole_is op ref amt ctr zone card flt pool mods va vn vc specs R GR _ GU _ hl) ?_; with_reducible rfl)))); (try simp only [put0, put1, put2, put3, put4])) | ((with_reducible refine runS_here ?_); (refine runS_val (v := ?_) rfl (fun _ _ _ h => h) ?_ ?_; rotate_left; (focus ((intro w hS; go_simp) <;> with_reducible rfl))); (try simp only [put0, put1, put2, put3, put4])))
  all_goals go_ret
  all_goals exact ⟨ret_bool (by simp), hS.below⟩
theorem eIs_any (e : Ef) (v : Sl) (specs : Int) (R : Bool) (HR : Hid (eIs e specs = R)) (w : World) (hl : LaidE e v w) : Calls Tryz.prog 11 #[.agg (e.at v).cells, .int .i64 specs] w fun x w' => x = .returned (.bool R) ∧ Below w.heap.size w w' := by
 obtain ⟨op, ref, amt, ctr, zone, card, flt, pool, mods⟩ := e
 obtain ⟨va, vn, vc⟩ := v
 obtain ⟨p, rfl⟩ : ∃ p, card = B p := ⟨L card, (B_L card).symm⟩
 rw [← HR.out]
 exact eIs_walk op ref amt ctr zone p flt pool mods va vn vc specs w hl
end Go.Proofs.YtdnnbfbhifelkaaGreatDoor
namespace Go.Proofs.YtdnnbfbhifelkaaGreatDoor
attribute [local irreducible] wpList Code.wp Calls
open Go.ChangeShapes Go.WideShapes Go.RowKit
theorem eText_none (e : Ef) (v : Sl) (HV : Hid (eIs e 4 = false)) (w : World) (hl : LaidE e v w) : Calls Tryz.prog 13 #[.agg (e.at v).cells] w fun x w' => x = .returned (.string (B [])) ∧ Below w.heap.size w w' := by
 have hS := St.start hl (keepsE e v)
 go_enter Tryz.func13, Tryz.ntmps13
 go_wp2_with (first | (go_at_call 11; (with_reducible refine (St.call hS fun hl => eIs_any e v 4 _ HV _ hl).mono ?_); rintro e w ⟨rfl, hS⟩) | ((with_reducible refine at_box ?_); (first | (refine wpList_box_agg rfl hS rfl rfl ?_; intro g w hS)); (try simp only [put0, put1, put2, put3, put4])) | ((with_reducible refine at_load ?_); (first | (refine em_ldw rfl hS rfl rfl (by repeat constructor) ?_)); (try simp only [put0, put1, put2, put3, put4])))
 all_goals go_ret
 all_goals exact ⟨rfl, hS.below⟩
theorem eText_any (e : Ef) (v : Sl) (T : Str) (HT : Hid (eText e = T)) (w : World) (hl : LaidE e v w) : Calls Tryz.prog 13 #[.agg (e.at v).cells] w fun x w' => x = .returned (.string (B T)) ∧ Below w.heap.size w w' := by
 rw [← HT.out]
 cases hv : eIs e 4 with
 | false => rw [eText_no hv]; exact eText_none e v (Lib.hid hv) w hl
 | true =>
   rw [eText_yes hv]
   have h1 := fun w hl => eIs_any e v 4 true (Lib.hid hv) w hl
   obtain ⟨op, ref, amt, ctr, zone, card, flt, pool, mods⟩ := e
   obtain ⟨va, vn, vc⟩ := v
   obtain ⟨p, rfl⟩ : ∃ p, card = B p := ⟨L card, (B_L card).symm⟩
   exact eText_walk op ref amt ctr zone p flt pool mods va vn vc h1 hv w hl
theorem eInner_any (s : Str) (T : Str) (HT : Hid (innerS s = T)) (hs : s.length < 1000000000) (w : World) : Calls Tryz.prog 86 #[.string (B s)] w fun x w' => x = .returned (.string (B T)) ∧ w = w' := by
 have hsz := B_size s
 by_cases h : s.length < 2
 ·obtain rfl : T = [] := by rw [← HT.out]; unfold innerS; rw [if_pos h]
  go_enter Tryz.func86, Tryz.ntmps86
  go_wp2
  go_ret
  exact ⟨rfl, rfl⟩
 ·have E : Hid ((B s).extract 1 (s.length - 1) = B T) := Lib.hid (L_inj (by
   rw [L_extract, L_B, L_B, ← HT.out]; unfold innerS; rw [if_neg h]))
  go_enter Tryz.func86, Tryz.ntmps86
  go_wp2
  go_ret
  exact ⟨ret_str (by rw [← E.out]), rfl⟩
abbrev LaidW (gw : Nat) (ws : List Str) (w : World) : Prop := LaidM w ∧ CellsAt gw 0 ws w
theorem keepsW (gw : Nat) (ws : List Str) : ∀ w1 w2 : World, LaidW gw ws w1 → Below w1.heap.size w1 w2 → LaidW gw ws w2 := fun _ _ h hb => ⟨h.1.below hb, h.2.keep hb⟩
theorem word_at {gw : Nat} {ws : List Str} {w : World} (h : LaidW gw ws w) {k : Nat} {T : Str} (hk : Hid (ws[k]? = some T)) : w.cell? ⟨gw, k, none⟩ = some (.string (B T)) := by
 have := h.2 k T hk.out
 rwa [Nat.zero_add] at this
structure NX (ws : List Str) (b : Bool) (off : Nat) (T : Str) (off' n' c' : Nat) : Prop where
 eq : nx b (ws.drop off) = (T, ws.drop off')
 sum : off' + n' = ws.length
 one : 1 ≤ n'
 cap : n' ≤ c'
 len : T.length < 100000000
theorem nx_stay (ws : List Str) (b : Bool) (off n c : Nat) (h : off + n = ws.length) (h1 : 1 ≤ n) (hc : n ≤ c) (hb : ¬ (b = true ∧ 2 ≤ n)) : NX ws b off [] off n c := by
 refine ⟨?_, h, h1, hc, by simp⟩
 unfold nx
 rw [if_neg]
 rw [List.length_drop]
 intro hh; exact hb ⟨hh.1, by omega⟩
theorem nx_step (ws : List Str) (off n c : Nat) (h : off + n = ws.length) (h2 : 2 ≤ n) (hc : n ≤ c) (T : Str) (hT : ws[off + 1]? = some T) (hl : T.length < 100000000) : NX ws true off T (off + 1) (n - 1) (c - 1) := by
 refine ⟨?_, by omega, by omega, by omega, hl⟩
 unfold nx
 rw [if_pos ⟨rfl, by rw [List.length_drop]; omega⟩, List.drop_drop]
 have : (ws.drop off).getD 1 [] = T := by
  rw [List.getD_eq_getElem?_getD, List.getElem?_drop, hT]; rfl
 rw [this]
theorem eNext_st (b : Bool) (gw : Nat) (ws : List Str) (hws : ∀ x ∈ ws, x.length < 100000000) (g off n c : Nat) (hn : off + n = ws.length) (h1 : 1 ≤ n) (hc : n ≤ c) (hbig : ws.length < 1000000000) {w0 w : World} {rows : List Row} {R : Nat → Nat → Nat → List Row}
 (hS : St (LaidW gw ws) w0 rows w) (ha : RowAt g #[.slice (some ⟨gw, off, none⟩) n c] TSs rows) (h0 : R off n c = rows) (hm : RowSet g #[.slice (some ⟨gw, off, none⟩) n c] #[.slice (some ⟨gw, off + 1, none⟩) (n - 1) (c - 1)] TSs rows (R (off + 1) (n - 1) (c - 1))) (hm2 : RowAt g #[.slice (some ⟨gw, off + 1, none⟩) (n - 1) (c - 1)] TSs (R (off + 1) (n - 1) (c - 1))) :
 Calls Tryz.prog 81 #[.bool b, .pointer (some ⟨g, 0, none⟩)] w fun e w' => ∃ T off' n' c', e = .returned (.string (B T)) ∧ St (LaidW gw ws) w0 (R off' n' c') w' ∧ Hid (NX ws b off T off' n' c') := by
 cases b with
 | false =>
   have HN := Lib.hid (nx_stay ws false off n c hn h1 hc (by simp))
   go_enter Tryz.func81, Tryz.ntmps81
   go_wp2_with (first | ((with_reducible refine at_guard ?_); (first | (refine wpList_pass rfl ?_)); (try simp only [put0, put1, put2, put3, put4])))
   all_goals go_ret
   all_goals exact ⟨[], off, n, c, rfl, h0 ▸ hS, HN⟩
 | true =>
   by_cases h2 : 2 ≤ n
   ·obtain ⟨T, hT⟩ : ∃ T, ws[off + 1]? = some T := ⟨ws[off + 1]'(by omega), List.getElem?_eq_getElem (by omega)⟩
    have HN := Lib.hid (nx_step ws off n c hn h2 hc T hT (hws T (List.mem_of_getElem? hT)))
    have HT := Lib.hid hT
    have t1 : decide ((n : Int) < 2) = false := by simp; omega
    clear hT
    go_enter Tryz.func81, Tryz.ntmps81
    go_wp2_with (first | ((with_reducible refine at_load (T := TSs) ?_); refine wpList_ld_cell rfl hS rfl rfl ha scalTS rfl ?_; (try simp only [put0, put1, put2, put3, put4])) | ((with_reducible refine at_load (T := TSs) ?_); refine wpList_ld_cell rfl hS rfl rfl hm2 scalTS rfl ?_; (try simp only [put0, put1, put2, put3, put4])) | ((with_reducible refine at_store ?_); refine wpList_stS rfl hS rfl rfl rfl hm ?_; intro w hS) | ((with_reducible refine at_load ?_); refine wpList_ld_out rfl rfl rfl (word_at hS.laid HT) ?_; (try simp only [put0, put1, put2, put3, put4])))
    all_goals go_ret
    all_goals exact ⟨T, off + 1, n - 1, c - 1, rfl, hS, HN⟩
   ·have HN := Lib.hid (nx_stay ws true off n c hn h1 hc (by omega))
    have t1 : decide ((n : Int) < 2) = true := by simp; omega
    go_enter Tryz.func81, Tryz.ntmps81
    go_wp2_with (first | ((with_reducible refine at_load (T := TSs) ?_); refine wpList_ld_cell rfl hS rfl rfl ha scalTS rfl ?_; (try simp only [put0, put1, put2, put3, put4])))
    all_goals go_ret
    all_goals exact ⟨[], off, n, c, rfl, h0 ▸ hS, HN⟩
def rfE (o : Option Rf) : Int := if o.isSome = true then 0 else 3
theorem refRet_eq (o : Option Rf) : refRet o = .tuple #[.agg (Rf.cells (o.getD zeroR)), .int .i64 (rfE o)] := by cases o <;> rfl
def amE (o : Option Am) : Int := if o.isSome = true then 0 else 3
theorem amRet_eq (o : Option Am) : amRet o = .tuple #[.agg (Am.cells (o.getD zeroA)), .int .i64 (amE o)] := by cases o <;> rfl
def poE (o : Option Po) : Int := if o.isSome = true then 0 else 3
theorem poRet_eq (o : Option Po) : poRet o = .tuple #[.agg (Po.cells (o.getD zeroPo)), .int .i64 (poE o)] := by cases o <;> rfl
theorem rfO_any (x : Str) (X : Rf) (h : Hid ((refParse x).getD zeroR = X)) (hx : x.length < 100000000) (w : World) (hl : Laid w) : Calls Tryz.prog 82 #[.string (B x)] w fun e w' => e = .returned (.tuple #[.agg X.cells, .int .i64 (rfE (refParse x))]) ∧ Below w.heap.size w w' :=
 (rfParse_any (B x) w hl (by rw [B_size]; exact hx)).mono fun e w' ⟨he, hb⟩ => ⟨he.trans (by rw [L_B, refRet_eq, h.out]), hb⟩
theorem amO_any (x : Str) (X : Am) (h : Hid ((amParse x).getD zeroA = X)) (hx : x.length < 100000000) (w : World) (hl : LaidM w) : Calls Tryz.prog 84 #[.string (B x)] w fun e w' => e = .returned (.tuple #[.agg X.cells, .int .i64 (amE (amParse x))]) ∧ Below w.heap.size w w' :=
 (aParse_any (B x) w hl (by rw [B_size]; exact hx)).mono fun e w' ⟨he, hb⟩ => ⟨he.trans (by rw [L_B, amRet_eq, h.out]), hb⟩
theorem poO_any (x : Str) (X : Po) (h : Hid ((poParse x).getD zeroPo = X)) (hx : x.length < 100000000) (w : World) (hl : Laid w) : Calls Tryz.prog 87 #[.string (B x)] w fun e w' => e = .returned (.tuple #[.agg X.cells, .int .i64 (poE (poParse x))]) ∧ Below w.heap.size w w' :=
 (poParse_any x hx w hl).mono fun e w' ⟨he, hb⟩ => ⟨he.trans (by rw [poRet_eq, h.out]), hb⟩
theorem fltOE_any (x : Str) (X : Flt) (h : Hid ((parseS x).getD zeroF = X)) (hx : x.length < 100000000) (w : World) (hl : Laid w) : Calls Tryz.prog 88 #[.string (B x)] w fun e w' => e = .returned (.tuple #[.agg X.cells, .int .i64 (fltE (parseS x))]) ∧ Below w.heap.size w w' :=
 (fltO_any x hx w hl).mono fun e w' ⟨he, hb⟩ => ⟨he.trans (by rw [h.out]), hb⟩
theorem cntO_any (x : Str) (X : Int) (h : Hid ((((cntIx x).getD 0 : Nat) : Int) = X)) (w : World) (hl : LaidM w) : Calls Tryz.prog 83 #[.string (B x)] w fun e w' => e = .returned (.tuple #[.int .i64 X, .bool (cntIx x).isSome]) ∧ Below w.heap.size w w' :=
 (cntKind_is (B x) X (cntIx x).isSome (Lib.hid (by rw [L_B]; exact ⟨h.out, rfl⟩)) w hl).mono fun e w' h' => ⟨h'.1, by first | exact h'.2 | exact h'.2 ▸ Below.refl _ _⟩
def opFold (s : Str) (m : Nat) : Int := (List.range' 1 m).foldl (fun (o : Int) (k : Nat) => if opName (k : Int) = s then (k : Int) else o) 0
theorem opFold_step (s : Str) (m : Nat) : opFold s (m + 1) = if opName ((m + 1 : Nat) : Int) = s then ((m + 1 : Nat) : Int) else opFold s m := by
 unfold opFold
 rw [List.range'_concat, List.foldl_append]
 simp [Nat.add_comm]
theorem opFold_end (s : Str) : opFold s 26 = opIx s := rfl
def zoFold (s : Str) (m : Nat) : Int := (List.range' 0 m).foldl (fun (o : Int) (k : Nat) => if zoneName (k : Int) = s then (k : Int) else o) 0
theorem zoFold_step (s : Str) (m : Nat) : zoFold s (m + 1) = if zoneName (m : Int) = s then (m : Int) else zoFold s m := by
 unfold zoFold
 rw [List.range'_concat, List.foldl_append]
 simp
theorem zoFold_end (s : Str) : zoFold s 6 = zoIx s := rfl
theorem innerS_len (s : Str) : (innerS s).length ≤ s.length := by
 unfold innerS
 split
 ·simp
 ·simp; omega
structure NS (ws : List Str) (off n c : Nat) : Prop where
 sum : off + n = ws.length
 one : 1 ≤ n
 cap : n ≤ c
theorem NX.ns {ws : List Str} {b : Bool} {off off' n' c' : Nat} {T : Str} (h : NX ws b off T off' n' c') : NS ws off' n' c' := ⟨h.sum, h.one, h.cap⟩
theorem eNext3 (b : Bool) {gw : Nat} {ws : List Str} (hws : ∀ x ∈ ws, x.length < 100000000) (hbig : ws.length < 1000000000) {g off n c : Nat} (hn : Hid (NS ws off n c)) {w0 w : World} {r1 r2 r3 : Row} (hS : St (LaidW gw ws) w0 [r1, r2, r3, (g, #[.slice (some ⟨gw, off, none⟩) n c], TSs)] w) :
 Calls Tryz.prog 81 #[.bool b, .pointer (some ⟨g, 0, none⟩)] w fun e w' => ∃ T off' n' c', e = .returned (.string (B T)) ∧ St (LaidW gw ws) w0 [r1, r2, r3, (g, #[.slice (some ⟨gw, off', none⟩) n' c'], TSs)] w' ∧ Hid (NX ws b off T off' n' c') :=
 eNext_st b gw ws hws g off n c hn.out.sum hn.out.one hn.out.cap hbig (R := fun o m d => [r1, r2, r3, (g, #[.slice (some ⟨gw, o, none⟩) m d], TSs)]) hS (.tail (.tail (.tail .head))) rfl (.tail (.tail (.tail .head))) (.tail (.tail (.tail .head)))
theorem eNext4 (b : Bool) {gw : Nat} {ws : List Str} (hws : ∀ x ∈ ws, x.length < 100000000) (hbig : ws.length < 1000000000) {g off n c : Nat} (hn : Hid (NS ws off n c)) {w0 w : World} {r1 r2 r3 r4 : Row} (hS : St (LaidW gw ws) w0 [r1, r2, r3, r4, (g, #[.slice (some ⟨gw, off, none⟩) n c], TSs)] w) :
 Calls Tryz.prog 81 #[.bool b, .pointer (some ⟨g, 0, none⟩)] w fun e w' => ∃ T off' n' c', e = .returned (.string (B T)) ∧ St (LaidW gw ws) w0 [r1, r2, r3, r4, (g, #[.slice (some ⟨gw, off', none⟩) n' c'], TSs)] w' ∧ Hid (NX ws b off T off' n' c') :=
 eNext_st b gw ws hws g off n c hn.out.sum hn.out.one hn.out.cap hbig (R := fun o m d => [r1, r2, r3, r4, (g, #[.slice (some ⟨gw, o, none⟩) m d], TSs)]) hS (.tail (.tail (.tail (.tail .head)))) rfl (.tail (.tail (.tail (.tail .head)))) (.tail (.tail (.tail (.tail .head))))
theorem wpList_boxS {L : World → Prop} {w0 w : World} {rows : List Row} {ops : Array Oper} {rest : List Oper} {o : Oper} {a : Act} {Q : Exit → Act → World → Prop} {T : Nat} {x : Operand} (ho : o.op = .box T x) (hS : St L w0 rows w) (hw : Region.wanted o (yielded ops a.tmps) = true) {A : Option Addr} {n c : Nat} (hx : a.eval x = .slice A n c)
 (h : ∀ g w', St L w0 ((g, #[.slice A n c], T) :: rows) w' → wpList Tryz.prog ops Q rest (a.put o.dst (.pointer (some ⟨g, 0, none⟩))) w') : wpList Tryz.prog ops Q (o :: rest) a w :=
 wpList_box_one ho hS hw hx (by simp [Value.oneCell']) h
theorem runS_ldS {L : World → Prop} {w0 : World} {rows : List Row} {ops : Array Oper} {rest : List Oper} {o : Oper} {a : Act} {Q : Exit → Act → World → Prop} {x : Operand} (ho : o.op = .load TSs x) (hw : Region.wanted o (yielded ops a.tmps) = true) {g : Nat} (hx : a.eval x = .pointer (some ⟨g, 0, none⟩)) {A : Option Addr} {n c : Nat} {T' : Nat} (hm : RowAt g #[.slice A n c] T' rows)
 (hq : ∀ c' a w, Q (.panic c') (a.put o.dst (.slice A n c)) w → Q (.panic c') a w) (h : RunS Tryz.prog ops Q (St L w0 rows) rest (a.put o.dst (.slice A n c))) : RunS Tryz.prog ops Q (St L w0 rows) (o :: rest) a :=
 runS_val hw hq (fun w hS => run_ld_cell hS ho hx hm scalTS rfl) h
theorem plistR (x : Str) (hx : x.length < 100000000) {L : World → Prop} {w0 w : World} {rows : List Row} (hS : St L w0 rows w) (hl : Laid w) : Calls Tryz.prog 85 #[.string (B x)] w fun e w' =>
 (mlParse x = none ∧ e = .returned (.tuple #[.slice none 0 0, .int .i64 3]) ∧ St L w0 rows w') ∨ ∃ ms g cur c, mlParse x = some ms ∧ e = .returned (.tuple #[.slice (some ⟨g, 0, none⟩) ms.length c, .int .i64 0]) ∧ St L w0 ((g, cur, TMd) :: rows) w' ∧ Hid (∀ w'' : World, w''.heap[g]? = some (.cells cur TMd (0, 0)) → MsAt g 0 ms w'') :=
 (parseList_any x hx w hl).mono fun e w' ⟨hb, hr⟩ => by
  rcases hr with ⟨h1, h2⟩ | ⟨l, v, h1, h2, own⟩
  ·exact .inl ⟨h1, h2, hS.mono hb⟩
  ·have hne := (mlParse_back h1).1
   obtain ⟨o1, o2⟩ := own
   rcases o2 with ⟨_, h0⟩ | ⟨g, cap, cur, hv, hbg, hh, hrest⟩
   ·exact absurd (List.length_eq_zero_iff.1 h0) hne
   ·refine .inr ⟨l, g, cur, cap, h1, by rw [h2, hv], hS.grow hb hh hbg, Lib.hid fun w'' h'' => ?_⟩
    obtain ⟨g2, c2, e2, hm⟩ := own_ms (w := w'') (b := w.heap.size) (v := v) ⟨o1, .inr ⟨g, cap, cur, hv, hbg, h'', hrest⟩⟩ hne
    rw [hv] at e2
    injection e2 with e2
    injection e2 with e2
    injection e2 with e2
    subst e2
    exact hm
def ModsR (e : Ef) (v : Sl) (b : Nat) (w : World) : Prop := v.n = e.mods.length ∧ e.mods.length < 1000000 ∧ ((v.a = none ∧ e.mods = []) ∨ ∃ g cur, v.a = some ⟨g, 0, none⟩ ∧ b ≤ g ∧ w.heap[g]? = some (.cells cur TMd (0, 0)) ∧ ∀ w'' : World, w''.heap[g]? = some (.cells cur TMd (0, 0)) → MsAt g 0 e.mods w'')
theorem ModsR.at_ {e : Ef} {v : Sl} {b : Nat} {w : World} (h : ModsR e v b w) : ModsAt e v w := by
 refine ⟨h.1, h.2.1, ?_⟩
 rcases h.2.2 with ⟨_, h0⟩ | ⟨g, cur, ha, _, hg, hm⟩
 ·exact .inl h0
 ·exact .inr ⟨g, 0, ha, hm w hg⟩
theorem guess_of {ws : List Str} {o : Int} {u1 u2 u3 u4 u5 u6 u7 u8 : Bool} {T1 T2 T3 T4 T5 T6 T7 T8 : Str} {f1 f2 f3 f4 f5 f6 f7 f8 : Nat} (hop : opIx (ws.getD 0 []) = o) (hU : usOf o = ⟨u1, u2, u3, u4, u5, u6, u7, u8⟩) (e1 : nx u1 (ws.drop 0) = (T1, ws.drop f1)) (e4 : nx u4 (ws.drop f1) = (T4, ws.drop f4)) (e3 : nx u3 (ws.drop f4) = (T3, ws.drop f3)) (e5 : nx u5 (ws.drop f3) = (T5, ws.drop f5)) (e2 : nx u2 (ws.drop f5) = (T2, ws.drop f2)) (e8 : nx u8 (ws.drop f2) = (T8, ws.drop f8)) (e7 : nx u7 (ws.drop f8) = (T7, ws.drop f7)) (e6 : nx u6 (ws.drop f7) = (T6, ws.drop f6)) :
 guessE ws = ⟨o, (refParse T1).getD zeroR, (amParse T2).getD zeroA, (((cntIx T3).getD 0 : Nat) : Int), zoIx T4, B T5, (parseS (innerS T6)).getD zeroF, (poParse T7).getD zeroPo, (mlParse (innerS T8)).getD []⟩ := by
 have h1 : uR o = u1 := congrArg Us.ref hU
 have h2 : uA o = u2 := congrArg Us.amt hU
 have h3 : uK o = u3 := congrArg Us.ctr hU
 have h4 : uZ o = u4 := congrArg Us.zone hU
 have h5 : uC o = u5 := congrArg Us.card hU
 have h6 : uF o = u6 := congrArg Us.flt hU
 have h7 : uP o = u7 := congrArg Us.pool hU
 have h8 : uM o = u8 := congrArg Us.mods hU
 rw [List.drop_zero] at e1
 unfold guessE
 rw [hop]
 unfold guessOp nx8 nx7 nx6 nx5 nx4 nx3 nx2 nx1
 rw [h1, h2, h3, h4, h5, h6, h7, h8]
 simp only [e1, e2, e3, e4, e5, e6, e7, e8]
theorem eGuess_walk (gw : Nat) (ws : List Str) (c0 : Nat) (hws : ∀ x ∈ ws, x.length < 100000000) (hbig : ws.length < 100000001) (h1 : 1 ≤ ws.length) (hc0 : ws.length ≤ c0) (W0 : Str) (HW0 : Hid (ws[0]? = some W0)) (w0 : World) (hl : LaidW gw ws w0) :
 Calls Tryz.prog 48 #[.slice (some ⟨gw, 0, none⟩) ws.length c0] w0 fun e w' => ∃ v, e = .returned (.agg ((guessE ws).at v).cells) ∧ ModsR (guessE ws) v w0.heap.size w' ∧ Below w0.heap.size w0 w' := by
 have HN0 : Hid (NS ws 0 ws.length c0) := Lib.hid ⟨by omega, h1, hc0⟩
 have hb9 : ws.length < 1000000000 := by omega
 have hS := St.start hl (keepsW gw ws)
 obtain ⟨n0, hn0⟩ : ∃ n, ws.length = n := ⟨_, rfl⟩
 rw [hn0] at HN0 ⊢
 have hn1 : 1 ≤ n0 := HN0.out.one
 have hn2 : 0 < n0 := hn1
 have hn3 : (0 : Int) < (n0 : Int) := by omega
 have hn4 : ¬ n0 = 0 := by omega
 clear hn0
 go_enter Tryz.func48, Tryz.ntmps48
 go_wp2_with (first | fail | ((refine hot_here rfl ?_); (first | ((with_reducible refine at_box ?_); refine wpList_boxS rfl hS rfl rfl ?_; intro g1 w hS) | ((with_reducible refine at_alloc ?_); refine wpList_new 34 rfl hS rfl _ em_new ?_; intro g w hS))) | ((fail_if_success (with_reducible refine wpList_here ?_)); (first | fail)))
 rename_i g2 wq hSq K1 hK1
 clear hSq
 generalize g = g3 at *
 have hw00 : ws.getD 0 [] = W0 := by rw [List.getD_eq_getElem?_getD, HW0.out]; rfl
 have HD0 := Lib.hid hw00
 clear hw00
 go_loopw [4] (fun kv wr => ∃ (k : Nat) (o : Int), k ≤ 26 ∧ kv = .int .i64 ((k : Int) + 1) ∧ Hid (opFold W0 k = o) ∧ Hid (St (LaidW gw ws) w0 [(g3, Em.cells ⟨o, zeroR, zeroA, 0, 0, ⟨#[]⟩, zeroF, zeroPo, ⟨none, 0, 0⟩⟩, 34), (g2, zeroEm.cells, 34), (g1, #[.slice (some ⟨gw, 0, none⟩) n0 c0], TSs)] wr)) (fun kv _ => 27 - (intOf kv).toNat)
 case atStart => exact ⟨0, 0, by omega, rfl, Lib.hid rfl, Lib.hid hS⟩
 case round =>
  clear hS
  obtain ⟨k, o, hk, rfl, HO, HS⟩ := hrel
  have hS := HS.out
  clear HS
  by_cases hlt : k < 26
  ·obtain ⟨T0, hT0⟩ : ∃ T, opName ((k : Int) + 1) = T := ⟨_, rfl⟩
   have hst := opFold_step W0 k
   rw [show ((k + 1 : Nat) : Int) = (k : Int) + 1 by omega, hT0, HO.out] at hst
   have GN := Lib.hid hT0
   clear hT0
   by_cases hx : T0 = W0
   ·rw [if_pos hx] at hst
    have HST := Lib.hid hst
    have ht : (T0 == W0) = true := by rw [hx]; simp
    subst hx
    clear hst
    go_wp2_with (first | fail | ((refine hot_here rfl ?_); (first | ((with_reducible refine at_store ?_); (first | (refine em_st0 rfl hS rfl rfl rfl (by repeat constructor) ?_; intro w hS)); (try simp only [put0, put1, put2, put3, put4])))) | ((fail_if_success (with_reducible refine wpList_here ?_)); (first | ((with_reducible refine rat_load ?_); refine runS_ldS rfl rfl rfl (.tail (.tail .head)) (fun _ _ _ h => h) ?_; (try simp only [put0, put1, put2, put3, put4])) | ((with_reducible refine rat_load ?_); refine runS_ld_out rfl rfl rfl (fun w hS => word_at hS.laid HW0) (fun _ _ _ h => h) ?_; (try simp only [put0, put1, put2, put3, put4])) | ((with_reducible refine region_here ?_); refine wp_region_St hS (by kernel_rfl) (by kernel_rfl) ?_) | ((with_reducible refine runS_end ?_); intro w hS) | ((with_reducible refine rat_call ?_); (first | (refine runS_call (v := ?_) (args := ?_) 26 rfl (fun _ _ _ h => h) ?_ ?_ ?_; rotate_left 2; (focus ((intro w; go_simp) <;> with_reducible rfl)); (focus (intro w hS; refine St.callE hS (fun hl => eName_B _ _ GN _ hl.1.base) ?_; with_reducible rfl)))); (try simp only [put0, put1, put2, put3, put4])) | ((with_reducible refine runS_here ?_); (refine runS_val (v := ?_) rfl (fun _ _ _ h => h) ?_ ?_; rotate_left; (focus ((intro w hS; go_simp) <;> with_reducible rfl))); (try simp only [put0, put1, put2, put3, put4])))))
    go_roundw
    case rel => exact ⟨k + 1, (k : Int) + 1, by omega, by go_num, HST, Lib.hid hS⟩
    case measure => simp [intOf]; omega
   ·rw [if_neg hx] at hst
    have HST := Lib.hid hst
    have ht : (T0 == W0) = false := by simpa using hx
    clear hst
    go_wp2_with (first | fail | ((refine hot_here rfl ?_); (first | fail)) | ((fail_if_success (with_reducible refine wpList_here ?_)); (first | ((with_reducible refine rat_load ?_); refine runS_ldS rfl rfl rfl (.tail (.tail .head)) (fun _ _ _ h => h) ?_; (try simp only [put0, put1, put2, put3, put4])) | ((with_reducible refine rat_load ?_); refine runS_ld_out rfl rfl rfl (fun w hS => word_at hS.laid HW0) (fun _ _ _ h => h) ?_; (try simp only [put0, put1, put2, put3, put4])) | ((with_reducible refine region_here ?_); refine wp_region_St hS (by kernel_rfl) (by kernel_rfl) ?_) | ((with_reducible refine runS_end ?_); intro w hS) | ((with_reducible refine rat_call ?_); (first | (refine runS_call (v := ?_) (args := ?_) 26 rfl (fun _ _ _ h => h) ?_ ?_ ?_; rotate_left 2; (focus ((intro w; go_simp) <;> with_reducible rfl)); (focus (intro w hS; refine St.callE hS (fun hl => eName_B _ _ GN _ hl.1.base) ?_; with_reducible rfl)))); (try simp only [put0, put1, put2, put3, put4])) | ((with_reducible refine runS_here ?_); (refine runS_val (v := ?_) rfl (fun _ _ _ h => h) ?_ ?_; rotate_left; (focus ((intro w hS; go_simp) <;> with_reducible rfl))); (try simp only [put0, put1, put2, put3, put4])))))
    go_roundw
    case rel => exact ⟨k + 1, o, by omega, by go_num, HST, Lib.hid hS⟩
    case measure => simp [intOf]; omega
  ·obtain rfl : k = 26 := by omega
   have hop : opIx (ws.getD 0 []) = o := by rw [HD0.out, ← opFold_end, HO.out]
   have HOP := Lib.hid hop
   obtain ⟨U, hU⟩ : ∃ U, usOf o = U := ⟨_, rfl⟩
   obtain ⟨u1, u2, u3, u4, u5, u6, u7, u8⟩ := U
   have GU := Lib.hid hU
   clear hop hU HO
   go_wp2_with (first | fail | ((refine hot_here rfl ?_); (first | ((with_reducible refine at_alloc ?_); refine wpList_new 57 rfl hS rfl _ us_new ?_; intro g w hS) | ((with_reducible refine at_store ?_); refine us_stw rfl hS rfl rfl rfl .head ?_; intro w hS) | ((with_reducible refine at_load (T := 4) ?_); (first | (refine us_ld0 rfl hS rfl rfl (by repeat constructor) ?_) | (refine us_ld3 rfl hS rfl rfl (by repeat constructor) ?_)); (try simp only [put0, put1, put2, put3, put4])) | ((with_reducible refine at_load (T := 3) ?_); (first | (refine em_ld0 rfl hS rfl rfl (by repeat constructor) ?_)); (try simp only [put0, put1, put2, put3, put4])) | ((with_reducible refine at_store ?_); (first | (refine em_st1 rfl hS rfl rfl rfl (by repeat constructor) ?_; intro w hS)); (try simp only [put0, put1, put2, put3, put4])))) | ((fail_if_success (with_reducible refine wpList_here ?_)); (first | (go_at_call 28; (with_reducible refine (St.call hS fun hl => eOf_is _ _ GU _ hl.1.base).mono ?_); rintro e w ⟨rfl, hS⟩) | (go_at_call 81; (refine (eNext3 u1 hws hb9 HN0 hS).mono ?_); rintro e w ⟨T1, f1, m1, d1, rfl, hS, HX1⟩; obtain ⟨X1, hX1⟩ : ∃ X, (refParse T1).getD zeroR = X := ⟨_, rfl⟩; have GX1 := Lib.hid hX1; clear hX1; have HN1 := Lib.hid HX1.out.ns) | (go_at_call 82; (with_reducible refine (St.call hS fun hl => rfO_any T1 X1 GX1 HX1.out.len _ hl.1.base).mono ?_); rintro e w ⟨rfl, hS⟩) | (go_at_call 81; (refine (eNext3 u4 hws hb9 HN1 hS).mono ?_); rintro e w ⟨T4, f4, m4, d4, rfl, hS, HX4⟩; have HN4 := Lib.hid HX4.out.ns))))
   clear HN0 HN1
   go_loopw [8] (fun zv wr => ∃ (z : Nat) (y : Int), z ≤ 6 ∧ zv = .int .i64 z ∧ Hid (zoFold T4 z = y) ∧ Hid (St (LaidW gw ws) w0 [(g, Us.cells ⟨u1, u2, u3, u4, u5, u6, u7, u8⟩, 57), (g3, Em.cells ⟨o, X1, zeroA, 0, y, ⟨#[]⟩, zeroF, zeroPo, ⟨none, 0, 0⟩⟩, 34), (g2, zeroEm.cells, 34), (g1, #[.slice (some ⟨gw, f4, none⟩) m4 d4], TSs)] wr)) (fun zv _ => 6 - (intOf zv).toNat)
   case atStart => exact ⟨0, 0, by omega, rfl, Lib.hid rfl, Lib.hid hS⟩
   case round =>
    clear hS
    obtain ⟨z, y, hz, rfl, HY, HS⟩ := hrel
    have hS := HS.out
    clear HS
    by_cases hzl : z < 6
    ·obtain ⟨TZ, hTZ⟩ : ∃ T, zoneName (z : Int) = T := ⟨_, rfl⟩
     have hst := zoFold_step T4 z
     rw [hTZ, HY.out] at hst
     have GZ := Lib.hid hTZ
     clear hTZ
     by_cases hx : TZ = T4
     ·rw [if_pos hx] at hst
      have HST := Lib.hid hst
      have ht : (TZ == T4) = true := by rw [hx]; simp
      clear hst hx
      go_wp2_with (first | ((first | (with_reducible refine wpList_here ?_) | (with_reducible refine region_here ?_)); (first | (have hq := int_eq (by assumption); subst hq) | (have hq := str_eq (by assumption); subst hq))) | ((refine hot_here rfl ?_); (first | ((with_reducible refine at_store ?_); (first | (refine em_st39 rfl hS rfl rfl rfl (by repeat constructor) ?_; intro w hS)); (try simp only [put0, put1, put2, put3, put4])))) | ((fail_if_success (with_reducible refine wpList_here ?_)); (first | (go_at_call 15; (with_reducible refine (St.call hS fun hl => zone_B _ _ GZ _).mono ?_); rintro e w ⟨rfl, hS⟩))))
      go_roundw
      case rel => exact ⟨z + 1, z, by omega, by go_num, HST, Lib.hid hS⟩
      case measure => simp [intOf]; omega
     ·rw [if_neg hx] at hst
      have HST := Lib.hid hst
      have ht : (TZ == T4) = false := by simpa using hx
      clear hst hx
      go_wp2_with (first | fail | ((refine hot_here rfl ?_); (first | fail)) | ((fail_if_success (with_reducible refine wpList_here ?_)); (first | (go_at_call 15; (with_reducible refine (St.call hS fun hl => zone_B _ _ GZ _).mono ?_); rintro e w ⟨rfl, hS⟩))))
      go_roundw
      case rel => exact ⟨z + 1, y, by omega, by go_num, HST, Lib.hid hS⟩
      case measure => simp [intOf]; omega
    ·obtain rfl : z = 6 := by omega
     have hyz : zoIx T4 = y := by rw [← zoFold_end, HY.out]
     have HYZ := Lib.hid hyz
     clear hyz HY
     go_wp2_with (first | fail | ((refine hot_here rfl ?_); (first | ((with_reducible refine at_load (T := 4) ?_); (first | (refine us_ld1 rfl hS rfl rfl (by repeat constructor) ?_) | (refine us_ld2 rfl hS rfl rfl (by repeat constructor) ?_) | (refine us_ld4 rfl hS rfl rfl (by repeat constructor) ?_) | (refine us_ld5 rfl hS rfl rfl (by repeat constructor) ?_) | (refine us_ld6 rfl hS rfl rfl (by repeat constructor) ?_) | (refine us_ld7 rfl hS rfl rfl (by repeat constructor) ?_)); (try simp only [put0, put1, put2, put3, put4])) | ((with_reducible refine at_load (T := 34) ?_); (first | (refine em_ldw rfl hS rfl rfl (by repeat constructor) ?_)); (try simp only [put0, put1, put2, put3, put4])) | ((with_reducible refine at_store ?_); (first | (refine em_stw rfl hS rfl rfl rfl (by repeat constructor) ?_; intro w hS) | (refine em_st19 rfl hS rfl rfl rfl (by repeat constructor) ?_; intro w hS) | (refine em_st38 rfl hS rfl rfl rfl (by repeat constructor) ?_; intro w hS) | (refine em_st40 rfl hS rfl rfl rfl (by repeat constructor) ?_; intro w hS) | (refine em_st41 rfl hS rfl rfl rfl (by repeat constructor) ?_; intro w hS) | (refine em_st57 rfl hS rfl rfl rfl (by repeat constructor) ?_; intro w hS) | (refine em_st63 rfl hS rfl rfl rfl (by repeat constructor) ?_; intro w hS)); (try simp only [put0, put1, put2, put3, put4])))) | ((fail_if_success (with_reducible refine wpList_here ?_)); (first | (go_at_call 81; (refine (eNext3 u3 hws hb9 HN4 hS).mono ?_); rintro e w ⟨T3, f3, m3, d3, rfl, hS, HX3⟩; obtain ⟨X3, hX3⟩ : ∃ X : Int, (((cntIx T3).getD 0 : Nat) : Int) = X := ⟨_, rfl⟩; have GX3 := Lib.hid hX3; clear hX3; have HN3 := Lib.hid HX3.out.ns) | (go_at_call 83; (with_reducible refine (St.call hS fun hl => cntO_any T3 X3 GX3 _ hl.1).mono ?_); rintro e w ⟨rfl, hS⟩) | (go_at_call 81; (refine (eNext3 u5 hws hb9 HN3 hS).mono ?_); rintro e w ⟨T5, f5, m5, d5, rfl, hS, HX5⟩; have HN5 := Lib.hid HX5.out.ns) | (go_at_call 81; (refine (eNext3 u2 hws hb9 HN5 hS).mono ?_); rintro e w ⟨T2, f2, m2, d2, rfl, hS, HX2⟩; obtain ⟨X2, hX2⟩ : ∃ X, (amParse T2).getD zeroA = X := ⟨_, rfl⟩; have GX2 := Lib.hid hX2; clear hX2; have HN2 := Lib.hid HX2.out.ns) | (go_at_call 84; (with_reducible refine (St.call hS fun hl => amO_any T2 X2 GX2 HX2.out.len _ hl.1).mono ?_); rintro e w ⟨rfl, hS⟩) | (go_at_call 81; (refine (eNext3 u8 hws hb9 HN2 hS).mono ?_); rintro e w ⟨T8, f8, m8, d8, rfl, hS, HX8⟩; obtain ⟨I8, hI8⟩ : ∃ X, innerS T8 = X := ⟨_, rfl⟩; have HI8l : Hid (I8.length < 100000000) := Lib.hid (by rw [← hI8]; exact Nat.lt_of_le_of_lt (innerS_len T8) HX8.out.len); have GI8 := Lib.hid hI8; clear hI8; have HN8 := Lib.hid HX8.out.ns) | (go_at_call 86; (with_reducible refine (St.still hS fun hl => eInner_any T8 I8 GI8 (by have := HX8.out.len; omega) _).mono ?_); rintro e w ⟨rfl, hS⟩) | (go_at_call 85; (refine (plistR I8 HI8l.out hS hS.laid.1.base).mono ?_); rintro e w (⟨hp8, rfl, hS⟩ | ⟨ms, gm, cm, dm, hp8, rfl, hS, HMS⟩) <;> (have HP8 := Lib.hid hp8; clear hp8)) | (go_at_call 81; (first | refine (eNext3 u7 hws hb9 HN8 hS).mono ?_ | refine (eNext4 u7 hws hb9 HN8 hS).mono ?_); rintro e w ⟨T7, f7, m7, d7, rfl, hS, HX7⟩; obtain ⟨X7, hX7⟩ : ∃ X, (poParse T7).getD zeroPo = X := ⟨_, rfl⟩; have GX7 := Lib.hid hX7; clear hX7; have HN7 := Lib.hid HX7.out.ns) | (go_at_call 87; (with_reducible refine (St.call hS fun hl => poO_any T7 X7 GX7 HX7.out.len _ hl.1.base).mono ?_); rintro e w ⟨rfl, hS⟩) | (go_at_call 81; (first | refine (eNext3 u6 hws hb9 HN7 hS).mono ?_ | refine (eNext4 u6 hws hb9 HN7 hS).mono ?_); rintro e w ⟨T6, f6, m6, d6, rfl, hS, HX6⟩; obtain ⟨I6, hI6⟩ : ∃ X, innerS T6 = X := ⟨_, rfl⟩; have HI6l : Hid (I6.length < 100000000) := Lib.hid (by rw [← hI6]; exact Nat.lt_of_le_of_lt (innerS_len T6) HX6.out.len); have GI6 := Lib.hid hI6; clear hI6; obtain ⟨X6, hX6⟩ : ∃ X, (parseS I6).getD zeroF = X := ⟨_, rfl⟩; have GX6 := Lib.hid hX6; clear hX6) | (go_at_call 86; (with_reducible refine (St.still hS fun hl => eInner_any T6 I6 GI6 (by have := HX6.out.len; omega) _).mono ?_); rintro e w ⟨rfl, hS⟩) | (go_at_call 88; (with_reducible refine (St.call hS fun hl => fltOE_any I6 X6 GX6 HI6l.out _ hl.1.base).mono ?_); rintro e w ⟨rfl, hS⟩))))
     all_goals
      have hge := guess_of HOP.out GU.out HX1.out.eq HX4.out.eq HX3.out.eq HX5.out.eq HX2.out.eq HX8.out.eq HX7.out.eq HX6.out.eq
      rw [GX1.out, GX2.out, GX3.out, HYZ.out, GI6.out, GX6.out, GX7.out, GI8.out, HP8.out] at hge
     ·simp only [Option.getD_none] at hge
      rw [hge]
      refine em_res hS rfl rfl (by repeat constructor) rfl (fun hb => ⟨⟨none, 0, 0⟩, rfl, ⟨rfl, Nat.le_of_ble_eq_true rfl, .inl ⟨rfl, rfl⟩⟩, hb⟩)
     ·simp only [Option.getD_some] at hge
      rw [hge]
      have hml := (mlParse_back HP8.out).2.1
      refine em_res hS rfl rfl (by repeat constructor) rfl (fun hb => ⟨⟨some ⟨gm, 0, none⟩, ms.length, dm⟩, rfl, ⟨rfl, by simp only; omega, .inr ⟨gm, cm, rfl, (hS.has _ (.head _)).2, hS.row .head, HMS.out⟩⟩, hb⟩)
end Go.Proofs.YtdnnbfbhifelkaaGreatDoor
