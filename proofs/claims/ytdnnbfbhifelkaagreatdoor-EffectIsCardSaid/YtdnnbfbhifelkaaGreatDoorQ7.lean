/- Plain words: mana costs and pools (chapter 8); Parse inverts Text. No program in sight. Plain words on memory: == of two references. Conditions: none. Plain words on memory: amounts' rows and ==; w -/
import Derived.Test.YtdnnbfbhifelkaaGreatDoorQ3
import Derived.Test.YtdnnbfbhifelkaaGreatDoorQ2
import Derived.Deep.MidRow
import Derived.Laws.CopyRow
import Derived.Test.YtdnnbfbhifelkaaGreatDoorQ4
import Derived.Lib.Index
import Derived.Test.YtdnnbfbhifelkaaGreatDoorQ1
set_option linter.all false
set_option maxRecDepth 100000
set_option maxHeartbeats 16000000
namespace Go.Proofs.YtdnnbfbhifelkaaGreatDoor
open Go.ChangeShapes Go.WideShapes Go.RowKit
structure Co where
 g : Int
 x : Int
 c0 : Int
 c1 : Int
 c2 : Int
 c3 : Int
 c4 : Int
deriving DecidableEq
structure Po where
 g : Int
 c0 : Int
 c1 : Int
 c2 : Int
 c3 : Int
 c4 : Int
deriving DecidableEq
def Co.cells (c : Co) : Array Value := #[.int .i64 c.g, .int .i64 c.x, .int .i64 c.c0, .int .i64 c.c1, .int .i64 c.c2, .int .i64 c.c3, .int .i64 c.c4]
def Po.cells (c : Po) : Array Value := #[.int .i64 c.g, .int .i64 c.c0, .int .i64 c.c1, .int .i64 c.c2, .int .i64 c.c3, .int .i64 c.c4]
def zeroCo : Co := ⟨0, 0, 0, 0, 0, 0, 0⟩
def zeroPo : Po := ⟨0, 0, 0, 0, 0, 0⟩
def coEq (a b : Co) : Bool := a.g == b.g && (a.x == b.x && (a.c0 == b.c0 && (a.c1 == b.c1 && (a.c2 == b.c2 && (a.c3 == b.c3 && a.c4 == b.c4)))))
def poEq (a b : Po) : Bool := a.g == b.g && (a.c0 == b.c0 && (a.c1 == b.c1 && (a.c2 == b.c2 && (a.c3 == b.c3 && a.c4 == b.c4))))
theorem coEq_iff (a b : Co) : coEq a b = true ↔ a = b := by
 obtain ⟨a0, a1, a2, a3, a4, a5, a6⟩ := a
 obtain ⟨b0, b1, b2, b3, b4, b5, b6⟩ := b
 simp [coEq]
theorem poEq_iff (a b : Po) : poEq a b = true ↔ a = b := by
 obtain ⟨a0, a1, a2, a3, a4, a5⟩ := a
 obtain ⟨b0, b1, b2, b3, b4, b5⟩ := b
 simp [poEq]
theorem coEq_refl (a : Co) : coEq a a = true := (coEq_iff a a).2 rfl
def in09C (n : Int) : Bool := decide (0 ≤ n) && decide (n ≤ 9)
def coIs (c : Co) : Bool := in09C c.c0 && (in09C c.c1 && (in09C c.c2 && (in09C c.c3 && (in09C c.c4 && (decide (0 ≤ c.g) && (decide (c.g ≤ 99) && (decide (0 ≤ c.x) && decide (c.x ≤ 2))))))))
def rep (b : UInt8) (n : Int) : Str := List.replicate n.toNat b
def coNum (g : Int) : Str := if 0 < g then Lib.itoa g else []
def coSyms (c : Co) : Str := rep 65 c.c0 ++ (rep 67 c.c1 ++ (rep 74 c.c2 ++ (rep 82 c.c3 ++ rep 69 c.c4)))
def coBody (c : Co) : Str := rep 88 c.x ++ (coNum c.g ++ coSyms c)
def coText (c : Co) : Str := if coIs c = true then (if coEq c zeroCo = true then [48] else coBody c) else []
def isLet (c : UInt8) : Bool := c == 65 || (c == 67 || (c == 74 || (c == 82 || c == 69)))
def isX (c : UInt8) : Bool := c == 88
def notLet (c : UInt8) : Bool := !isLet c
def coRest (s : Str) : Str := s.dropWhile isX
def coLets (s : Str) : Str := (coRest s).dropWhile notLet
def coMark (s : Str) : Str := (coRest s).takeWhile notLet
def guessCo (s : Str) : Co := ⟨(numOf (coMark s)).getD 0, ((s.takeWhile isX).length : Nat), ((coLets s).count 65 : Nat), ((coLets s).count 67 : Nat), ((coLets s).count 74 : Nat), ((coLets s).count 82 : Nat), ((coLets s).count 69 : Nat)⟩
def coParse (s : Str) : Option Co := if s ≠ [] ∧ (coLets s).all isLet = true ∧ coText (guessCo s) = s then some (guessCo s) else none
def coOf (p : Po) : Co := ⟨p.g, 0, p.c0, p.c1, p.c2, p.c3, p.c4⟩
def poOf (c : Co) : Po := ⟨c.g, c.c0, c.c1, c.c2, c.c3, c.c4⟩
def poText (p : Po) : Str := coText (coOf p)
def poParse (s : Str) : Option Po := match coParse s with
 | some c => if c.x = 0 then some (poOf c) else none
 | none => none
theorem tw_all {p : UInt8 → Bool} : ∀ {l r : Str}, (∀ c ∈ l, p c = true) → (∀ c ∈ r.head?, p c = false) → (l ++ r).takeWhile p = l ∧ (l ++ r).dropWhile p = r
 | [], [], _, _ => ⟨rfl, rfl⟩
 | [], c :: r, _, h => by
   have := h c (by simp)
   simp [List.takeWhile_cons, List.dropWhile_cons, this]
 | a :: l, r, h1, h2 => by
   have ha := h1 a (.head _)
   obtain ⟨i1, i2⟩ := tw_all (l := l) (fun c hc => h1 c (.tail _ hc)) h2
   simp [List.takeWhile_cons, List.dropWhile_cons, ha, i1, i2]
theorem num_digit {g : Int} (h0 : 0 ≤ g) {c : UInt8} (h : c ∈ coNum g) : 48 ≤ c.toNat ∧ c.toNat ≤ 57 := by
 unfold coNum at h
 split at h
 ·obtain ⟨n, rfl⟩ := Int.eq_ofNat_of_zero_le h0
  rw [Lib.itoa_nonneg] at h
  exact decDigits_mem n c h
 ·cases h
theorem rep_mem {b : UInt8} {n : Int} {c : UInt8} (h : c ∈ rep b n) : c = b := (List.mem_replicate.1 h).2
theorem syms_let (c : Co) : ∀ b ∈ coSyms c, isLet b = true := by
 intro b h
 unfold coSyms at h
 simp only [List.mem_append] at h
 rcases h with h | h | h | h | h <;> rw [rep_mem h] <;> rfl
theorem let_no {b : UInt8} (h : isLet b = true) : isX b = false ∧ ¬ (48 ≤ b.toNat ∧ b.toNat ≤ 57) := by
 unfold isLet at h
 simp only [Bool.or_eq_true, beq_iff_eq] at h
 rcases h with rfl | rfl | rfl | rfl | rfl <;> decide
theorem dig_no {b : UInt8} (h : 48 ≤ b.toNat ∧ b.toNat ≤ 57) : isX b = false ∧ notLet b = true := by
 have h2 : isLet b = false := by
  cases hb : isLet b with
  | false => rfl
  | true => exact absurd h (let_no hb).2
 refine ⟨?_, by unfold notLet; rw [h2]; rfl⟩
 cases hb : isX b with
 | false => rfl
 | true =>
   unfold isX at hb
   rw [beq_iff_eq] at hb
   subst hb
   exact absurd h (by decide)
theorem count_syms (c : Co) (h : coIs c = true) : ((coSyms c).count 65 : Int) = c.c0 ∧ ((coSyms c).count 67 : Int) = c.c1 ∧ ((coSyms c).count 74 : Int) = c.c2 ∧ ((coSyms c).count 82 : Int) = c.c3 ∧ ((coSyms c).count 69 : Int) = c.c4 := by
 simp only [coIs, in09C, Bool.and_eq_true, decide_eq_true_eq] at h
 unfold coSyms rep
 simp [List.count_append, List.count_replicate]
 omega
theorem coNum_read (g : Int) (h0 : 0 ≤ g) (h1 : g ≤ 99) : (numOf (coNum g)).getD 0 = g := by
 unfold coNum
 split
 ·rw [numOf_99 g (by omega) h1]; rfl
 ·obtain rfl : g = 0 := by omega
  decide +kernel
theorem guess_co {c : Co} (h : coIs c = true) : guessCo (coBody c) = c ∧ (coLets (coBody c)).all isLet = true := by
 have hr := h
 simp only [coIs, in09C, Bool.and_eq_true, decide_eq_true_eq] at hr
 have hx : ∀ b ∈ rep 88 c.x, isX b = true := fun b hb => by rw [rep_mem hb]; rfl
 have hn : ∀ b ∈ coNum c.g, 48 ≤ b.toNat ∧ b.toNat ≤ 57 := fun b hb => num_digit (by omega) hb
 have hh : ∀ b ∈ (coNum c.g ++ coSyms c).head?, isX b = false := fun b hb => by
  have hb := List.mem_of_mem_head? hb
  rcases List.mem_append.1 hb with hb | hb
  ·exact (dig_no (hn b hb)).1
  ·exact (let_no (syms_let c b hb)).1
 have hs : ∀ b ∈ (coSyms c).head?, notLet b = false := fun b hb => by
  have := syms_let c b (List.mem_of_mem_head? hb)
  unfold notLet; rw [this]; rfl
 obtain ⟨x1, x2⟩ := tw_all (p := isX) hx hh
 obtain ⟨y1, y2⟩ := tw_all (p := notLet) (fun b hb => (dig_no (hn b hb)).2) hs
 have e1 : coRest (coBody c) = coNum c.g ++ coSyms c := x2
 have e2 : coLets (coBody c) = coSyms c := by unfold coLets; rw [e1]; exact y2
 have e3 : coMark (coBody c) = coNum c.g := by unfold coMark; rw [e1]; exact y1
 have e4 : (coBody c).takeWhile isX = rep 88 c.x := x1
 obtain ⟨k0, k1, k2, k3, k4⟩ := count_syms c h
 refine ⟨?_, by rw [e2]; exact List.all_eq_true.2 (syms_let c)⟩
 unfold guessCo
 rw [e2, e3, e4, coNum_read _ (by omega) (by omega), k0, k1, k2, k3, k4]
 have : ((rep 88 c.x).length : Int) = c.x := by unfold rep; rw [List.length_replicate]; omega
 rw [this]
theorem body_ne {c : Co} (h : coIs c = true) (h0 : coEq c zeroCo = false) : coBody c ≠ [] := by
 intro e
 have := (guess_co h).1
 rw [e] at this
 have e2 : guessCo [] = zeroCo := by decide +kernel
 rw [e2] at this
 rw [← this] at h0
 rw [coEq_refl] at h0; cases h0
theorem coText_no {c : Co} (h : coIs c = false) : coText c = [] := if_neg (by rw [h]; decide)
theorem coText_ne {c : Co} (h : coIs c = true) : coText c ≠ [] := by
 unfold coText
 rw [if_pos h]
 cases hz : coEq c zeroCo with
 | true => simp
 | false => simp only [Bool.false_eq_true, if_false]; exact body_ne h hz
theorem coText_iff (c : Co) : coText c ≠ [] ↔ coIs c = true := by
 cases h : coIs c with
 | true => exact ⟨fun _ => rfl, fun _ => coText_ne h⟩
 | false => rw [coText_no h]; simp
theorem coParse_text {c : Co} (h : coIs c = true) : coParse (coText c) = some c := by
 cases hz : coEq c zeroCo with
 | true =>
   rw [(coEq_iff _ _).1 hz]
   decide +kernel
 | false =>
   have e : coText c = coBody c := by unfold coText; rw [if_pos h, if_neg (by rw [hz]; decide)]
   obtain ⟨g1, g2⟩ := guess_co h
   unfold coParse
   rw [e, g1, if_pos ⟨body_ne h hz, g2, e⟩]
def poIs (p : Po) : Bool := coIs (coOf p)
theorem poText_iff (p : Po) : poText p ≠ [] ↔ poIs p = true := coText_iff _
theorem poParse_text {p : Po} (h : poIs p = true) : poParse (poText p) = some p := by
 unfold poParse poText
 rw [coParse_text h]; rfl
theorem poParse_empty : poParse [] = none := by decide +kernel
def rfEq (r q : Rf) : Bool := r.kind == q.kind && (r.n == q.n && fltEq r.f q.f)
theorem rfEq_iff (r q : Rf) : rfEq r q = true ↔ r = q := by
 obtain ⟨a, b, f⟩ := r
 obtain ⟨a2, b2, f2⟩ := q
 simp only [rfEq, Bool.and_eq_true, beq_iff_eq, fltEq_iff, Rf.mk.injEq]
theorem eq_rf (r q : Rf) (w : World) : (binOp .eql 27 (.agg r.cells) (.agg q.cells)).run Tryz.prog w = .ok (.bool (rfEq r q)) w := by
 rw [run_eql_struct, run_equalIn_agg w 9999 27 _ _ (by kernel_rfl) (by kernel_rfl)]
 simp [rfEq, fltEq, Rf.cells, go_sem, Tryz.underlying27, Tryz.fieldsF, Tryz.stoodF, Tryz.underlying25, Tryz.underlying23, Tryz.underlying3, Tryz.underlying9]
 iterate 17 (refine ite_and_res (by simp) ?_)
 split
 ·rename_i h; rw [h]; simp
 ·rename_i h; rw [beq_eq_false_iff_ne.2 h]
theorem neq_rf (r q : Rf) (w : World) : (binOp .neq 27 (.agg r.cells) (.agg q.cells)).run Tryz.prog w = .ok (.bool (!rfEq r q)) w := by
 have h := eq_rf r q w
 rw [run_eql_struct] at h
 rw [run_neq_struct]
 generalize (Op.equalIn 10000 27 (.agg r.cells) (.agg q.cells)).run Tryz.prog w = x at *
 cases x <;> simp_all [Result.andThen]
abbrev TAm : Nat := 29
theorem infoTAm : (Tryz.prog.info? TAm).map (·.size) = some 19 := by kernel_rfl
theorem acells_one (r : Am) : r.cells.all (·.oneCell') = true := by simp [Am.cells, Value.oneCell']
theorem am_put (r : Am) (f : Flt) : r.cells.toList.take 3 ++ f.cells.toList ++ r.cells.toList.drop (3 + f.cells.size) = (Am.cells ⟨r.k, r.n, r.c, f⟩).toList := by simp [Am.cells, Flt.cells]
def amEq (r q : Am) : Bool := r.k == q.k && (r.n == q.n && (r.c == q.c && fltEq r.f q.f))
theorem amEq_iff (r q : Am) : amEq r q = true ↔ r = q := by
 obtain ⟨a, b, c, f⟩ := r
 obtain ⟨a2, b2, c2, f2⟩ := q
 simp only [amEq, Bool.and_eq_true, beq_iff_eq, fltEq_iff, Am.mk.injEq]
theorem eq_am (r q : Am) (w : World) : (binOp .eql 29 (.agg r.cells) (.agg q.cells)).run Tryz.prog w = .ok (.bool (amEq r q)) w := by
 rw [run_eql_struct, run_equalIn_agg w 9999 29 _ _ (by kernel_rfl) (by kernel_rfl)]
 simp [amEq, fltEq, Am.cells, go_sem, Tryz.underlying29, Tryz.fieldsF, Tryz.stoodF, Tryz.underlying25, Tryz.underlying23, Tryz.underlying3, Tryz.underlying9]
 iterate 18 (refine ite_and_res (by simp) ?_)
 split
 ·rename_i h; rw [h]; simp
 ·rename_i h; rw [beq_eq_false_iff_ne.2 h]
theorem neq_am (r q : Am) (w : World) : (binOp .neq 29 (.agg r.cells) (.agg q.cells)).run Tryz.prog w = .ok (.bool (!amEq r q)) w := by
 have h := eq_am r q w
 rw [run_eql_struct] at h
 rw [run_neq_struct]
 generalize (Op.equalIn 10000 29 (.agg r.cells) (.agg q.cells)).run Tryz.prog w = x at *
 cases x <;> simp_all [Result.andThen]
structure Ef where
 op : Int
 ref : Rf
 amt : Am
 ctr : Int
 zone : Int
 card : ByteArray
 flt : Flt
 pool : Po
 mods : List Md
def zeroE : Ef := ⟨0, zeroR, zeroA, 0, 0, ⟨#[]⟩, zeroF, zeroPo, []⟩
def opT : List Str := [[], [100, 97, 109, 97, 103, 101], [100, 101, 115, 116, 114, 111, 121], [109, 111, 118, 101], [100, 114, 97, 119], [100, 105, 115, 99, 97, 114, 100], [103, 97, 105, 110], [108, 111, 115, 101], [116, 97, 112], [117, 110, 116, 97, 112], [112, 117, 116], [116, 97, 107, 101], [99, 114, 101, 97, 116, 101], [109, 111, 100], [109, 97, 110, 97], [99, 111, 117, 110, 116, 101, 114], [99, 111, 112, 121], [98, 101, 99, 111, 109, 101], [115, 97, 99, 114, 105, 102, 105, 99, 101], [109, 105, 108, 108], [115, 99, 114, 121], [115, 101, 97, 114, 99, 104], [115, 104, 105, 101, 108, 100], [116, 117, 114, 110], [119, 105, 110], [100, 101, 102, 101, 97, 116], [118, 101, 110, 111, 109]]
def opName (op : Int) : Str := if 0 ≤ op ∧ op ≤ 26 then wd opT op.toNat else []
def uR (op : Int) : Bool := decide (op ∈ ([1, 2, 3, 4, 5, 6, 7, 8, 9, 10, 11, 12, 13, 15, 16, 17, 18, 19, 22, 25, 26] : List Int))
def uZ (op : Int) : Bool := decide (op ∈ ([3] : List Int))
def uK (op : Int) : Bool := decide (op ∈ ([10, 11] : List Int))
def uC (op : Int) : Bool := decide (op ∈ ([12] : List Int))
def uA (op : Int) : Bool := decide (op ∈ ([1, 4, 5, 6, 7, 10, 11, 12, 18, 19, 20, 22, 26] : List Int))
def uM (op : Int) : Bool := decide (op ∈ ([13] : List Int))
def uP (op : Int) : Bool := decide (op ∈ ([14] : List Int))
def uF (op : Int) : Bool := decide (op ∈ ([18, 21] : List Int))
def usesT : List Str := [[], [114, 97], [114], [114, 122], [114, 97], [114, 97], [114, 97], [114, 97], [114], [114], [114, 107, 97], [114, 107, 97], [114, 99, 97], [114, 109], [112], [114], [114], [114], [114, 97, 102], [114, 97], [97], [102], [114, 97], [], [], [114], [114, 97]]
def usesS (op : Int) : Str := if 0 ≤ op ∧ op ≤ 26 then wd usesT op.toNat else []
def fRef (e : Ef) (specs : Int) : Bool := if uR e.op = true then refIs e.ref specs else rfEq e.ref zeroR
def fAmt (e : Ef) : Bool := if uA e.op = true then amIs e.amt else amEq e.amt zeroA
def fCtr (e : Ef) : Bool := if uK e.op = true then !(cntText e.ctr == []) else e.ctr == 0
def fZone (e : Ef) : Bool := if uZ e.op = true then decide (0 ≤ e.zone) && decide (e.zone ≤ 4) else e.zone == 0
def fCard (e : Ef) : Bool := if uC e.op = true then isName (L e.card) else L e.card == []
def wantZ (op : Int) : Int := if op = 21 then 2 else 0
def fFlt (e : Ef) : Bool := if uF e.op = true then fltIs e.flt && e.flt.zone == wantZ e.op else fltEq e.flt zeroF
def fPool (e : Ef) : Bool := if uP e.op = true then !(poEq e.pool zeroPo) && !(poText e.pool == []) else poEq e.pool zeroPo
def fMods (e : Ef) : Bool := if uM e.op = true then !(mlText e.mods == []) else decide (e.mods.length = 0)
def fWhole (e : Ef) (specs : Int) : Bool := fRef e specs && (fAmt e && (fCtr e && (fZone e && (fCard e && (fFlt e && (fPool e && fMods e))))))
def eIs (e : Ef) (specs : Int) : Bool := !(opName e.op == []) && fWhole e specs
def opt (b : Bool) (s : Str) : List Str := if b = true then [s] else []
def modsS (l : List Md) : Str := 91 :: (mlText l ++ [93])
def fltS (f : Flt) : Str := 40 :: (textOf f ++ [41])
def eWords (e : Ef) : List Str := opName e.op :: (opt (uR e.op) (refText e.ref) ++ (opt (uZ e.op) (zoneName e.zone) ++ (opt (uK e.op) (cntText e.ctr) ++ (opt (uC e.op) (L e.card) ++ (opt (uA e.op) (amText e.amt) ++ (opt (uM e.op) (modsS e.mods) ++ (opt (uP e.op) (poText e.pool) ++ opt (uF e.op) (fltS e.flt))))))))
def eText (e : Ef) : Str := if eIs e 4 = true then Lib.join (eWords e) [32] else []
def nx (b : Bool) (l : List Str) : Str × List Str := if b = true ∧ 2 ≤ l.length then (l.getD 1 [], l.drop 1) else ([], l)
def opIx (s : Str) : Int := (List.range' 1 26).foldl (fun (o : Int) (k : Nat) => if opName (k : Int) = s then (k : Int) else o) 0
def zoIx (s : Str) : Int := (List.range' 0 6).foldl (fun (o : Int) (k : Nat) => if zoneName (k : Int) = s then (k : Int) else o) 0
def innerS (s : Str) : Str := if s.length < 2 then [] else (s.take (s.length - 1)).drop 1
def nx1 (op : Int) (ws : List Str) := nx (uR op) ws
def nx2 (op : Int) (ws : List Str) := nx (uZ op) (nx1 op ws).2
def nx3 (op : Int) (ws : List Str) := nx (uK op) (nx2 op ws).2
def nx4 (op : Int) (ws : List Str) := nx (uC op) (nx3 op ws).2
def nx5 (op : Int) (ws : List Str) := nx (uA op) (nx4 op ws).2
def nx6 (op : Int) (ws : List Str) := nx (uM op) (nx5 op ws).2
def nx7 (op : Int) (ws : List Str) := nx (uP op) (nx6 op ws).2
def nx8 (op : Int) (ws : List Str) := nx (uF op) (nx7 op ws).2
def guessOp (op : Int) (ws : List Str) : Ef := ⟨op, (refParse (nx1 op ws).1).getD zeroR, (amParse (nx5 op ws).1).getD zeroA, (((cntIx (nx3 op ws).1).getD 0 : Nat) : Int), zoIx (nx2 op ws).1, B (nx4 op ws).1, (parseS (innerS (nx8 op ws).1)).getD zeroF, (poParse (nx7 op ws).1).getD zeroPo, (mlParse (innerS (nx6 op ws).1)).getD []⟩
def guessE (ws : List Str) : Ef := guessOp (opIx (ws.getD 0 [])) ws
def eParse (s : Str) : Option Ef := if s ≠ [] ∧ eText (guessE (splitDep 32 s)) = s then some (guessE (splitDep 32 s)) else none
theorem opIx_name : ∀ k : Fin 27, opIx (opName (k.val : Int)) = (k.val : Int) := by decide +kernel
theorem opName_some {op : Int} (h : opName op ≠ []) : ∃ k : Fin 27, op = (k.val : Int) ∧ 1 ≤ k.val := by
 unfold opName at h
 split at h
 ·rename_i h1
  refine ⟨⟨op.toNat, by omega⟩, by simp only; omega, ?_⟩
  simp only
  rcases Nat.eq_zero_or_pos op.toNat with h0 | h0
  ·rw [h0] at h; exact absurd rfl h
  ·exact h0
 ·exact absurd rfl h
theorem opName_ne : ∀ k : Fin 27, 1 ≤ k.val → opName (k.val : Int) ≠ [] := by decide +kernel
theorem nx_yes (b : Bool) (x s : Str) (r : List Str) : nx b (x :: (opt b s ++ r)) = (if b = true then s else [], (if b = true then s else x) :: r) := by
 cases b <;> simp [nx, opt]
theorem nx_last (b : Bool) (x s : Str) : nx b (x :: opt b s) = (if b = true then s else [], [if b = true then s else x]) := by
 cases b <;> simp [nx, opt]
theorem inner_mods (l : List Md) : innerS (modsS l) = mlText l := by
 unfold innerS modsS
 simp
 intro h; omega
theorem inner_flt (f : Flt) : innerS (fltS f) = textOf f := by
 unfold innerS fltS
 simp
 intro h; omega
theorem cntIx_text (c : Int) (h : c = 0 ∨ c = 1 ∨ c = 2) : (((cntIx (cntText c)).getD 0 : Nat) : Int) = c := by rcases h with rfl | rfl | rfl <;> decide +kernel
theorem cntText_some {c : Int} (h : cntText c ≠ []) : c = 0 ∨ c = 1 ∨ c = 2 := by
 unfold cntText at h
 split at h
 ·exact .inl ‹_›
 split at h
 ·exact .inr (.inl ‹_›)
 split at h
 ·exact .inr (.inr ‹_›)
 ·exact absurd rfl h
theorem zoIx_name (z : Int) (h0 : 0 ≤ z) (h1 : z ≤ 4) : zoIx (zoneName z) = z := by
 have : ∀ k : Fin 5, zoIx (zoneName (k.val : Int)) = (k.val : Int) := by decide +kernel
 have := this ⟨z.toNat, by omega⟩
 simp only at this
 rwa [show ((z.toNat : Nat) : Int) = z by omega] at this
theorem mlParse_empty : mlParse [] = none := by decide +kernel
theorem not_nil {s : Str} (h : (!(s == [])) = true) : s ≠ [] := fun e => by rw [e] at h; cases h
structure EOk (e : Ef) (specs : Int) : Prop where
 opk : ∃ k : Fin 27, e.op = (k.val : Int) ∧ 1 ≤ k.val
 ref : fRef e specs = true
 amt : fAmt e = true
 ctr : fCtr e = true
 zone : fZone e = true
 card : fCard e = true
 flt : fFlt e = true
 pool : fPool e = true
 mods : fMods e = true
theorem e_ok {e : Ef} {specs : Int} (h : eIs e specs = true) : EOk e specs := by
 simp only [eIs, fWhole, Bool.and_eq_true] at h
 exact ⟨opName_some (not_nil h.1), h.2.1, h.2.2.1, h.2.2.2.1, h.2.2.2.2.1, h.2.2.2.2.2.1, h.2.2.2.2.2.2.1, h.2.2.2.2.2.2.2.1, h.2.2.2.2.2.2.2.2⟩
theorem rd_ref {e : Ef} (h : fRef e 4 = true) : (refParse (if uR e.op = true then refText e.ref else [])).getD zeroR = e.ref := by
 unfold fRef at h
 split at h <;> rename_i hu
 ·rw [if_pos hu, refParse_text h]; rfl
 ·rw [if_neg hu, refParse_empty]; exact ((rfEq_iff _ _).1 h).symm
theorem rd_amt {e : Ef} (h : fAmt e = true) : (amParse (if uA e.op = true then amText e.amt else [])).getD zeroA = e.amt := by
 unfold fAmt at h
 split at h <;> rename_i hu
 ·rw [if_pos hu, amParse_text h]; rfl
 ·rw [if_neg hu, amParse_empty]; exact ((amEq_iff _ _).1 h).symm
theorem rd_ctr {e : Ef} (h : fCtr e = true) : (((cntIx (if uK e.op = true then cntText e.ctr else [])).getD 0 : Nat) : Int) = e.ctr := by
 unfold fCtr at h
 split at h <;> rename_i hu
 ·rw [if_pos hu]; exact cntIx_text _ (cntText_some (not_nil h))
 ·rw [if_neg hu]
  rw [beq_iff_eq] at h
  rw [h]; decide +kernel
theorem rd_zone {e : Ef} (h : fZone e = true) : zoIx (if uZ e.op = true then zoneName e.zone else []) = e.zone := by
 unfold fZone at h
 split at h <;> rename_i hu
 ·simp only [Bool.and_eq_true, decide_eq_true_eq] at h
  rw [if_pos hu, zoIx_name _ h.1 h.2]
 ·rw [if_neg hu]
  rw [beq_iff_eq] at h
  rw [h]; decide +kernel
theorem rd_card {e : Ef} (h : fCard e = true) : B (if uC e.op = true then L e.card else []) = e.card := by
 unfold fCard at h
 split at h <;> rename_i hu
 ·rw [if_pos hu, B_L]
 ·rw [if_neg hu]
  rw [beq_iff_eq] at h
  rw [← h, B_L]
theorem rd_flt {e : Ef} (h : fFlt e = true) : (parseS (innerS (if uF e.op = true then fltS e.flt else []))).getD zeroF = e.flt := by
 unfold fFlt at h
 split at h <;> rename_i hu
 ·rw [Bool.and_eq_true] at h
  rw [if_pos hu, inner_flt, parse_text h.1]; rfl
 ·rw [if_neg hu, show innerS [] = [] from rfl, parseS_empty]
  exact ((fltEq_iff _ _).1 h).symm
theorem rd_pool {e : Ef} (h : fPool e = true) : (poParse (if uP e.op = true then poText e.pool else [])).getD zeroPo = e.pool := by
 unfold fPool at h
 split at h <;> rename_i hu
 ·rw [Bool.and_eq_true] at h
  rw [if_pos hu, poParse_text ((poText_iff _).1 (not_nil h.2))]; rfl
 ·rw [if_neg hu, poParse_empty]; exact ((poEq_iff _ _).1 h).symm
theorem ml_ok {l : List Md} (h : (!(mlText l == [])) = true) : l ≠ [] ∧ l.length ≤ 6 ∧ l.all mdIs = true := mlText_ne (not_nil h)
theorem rd_mods {e : Ef} (h : fMods e = true) : (mlParse (innerS (if uM e.op = true then modsS e.mods else []))).getD [] = e.mods := by
 unfold fMods at h
 split at h <;> rename_i hu
 ·obtain ⟨a, b, c⟩ := ml_ok h
  rw [if_pos hu, inner_mods, mlParse_text a b c]; rfl
 ·rw [if_neg hu, show innerS [] = [] from rfl, mlParse_empty]
  rw [decide_eq_true_eq] at h
  rw [List.eq_nil_of_length_eq_zero h]; rfl
theorem guess_words {e : Ef} (h : eIs e 4 = true) : guessE (eWords e) = e := by
 have o := e_ok h
 have r1 := rd_ref o.ref
 have r2 := rd_amt o.amt
 have r3 := rd_ctr o.ctr
 have r4 := rd_zone o.zone
 have r5 := rd_card o.card
 have r6 := rd_flt o.flt
 have r7 := rd_pool o.pool
 have r8 := rd_mods o.mods
 obtain ⟨k, hk, _⟩ := o.opk
 have hop : opIx ((eWords e).getD 0 []) = e.op := by
  show opIx (opName e.op) = e.op
  rw [hk]; exact opIx_name k
 unfold guessE
 rw [hop]
 obtain ⟨op, ref, amt, ctr, zone, card, flt, pool, mods⟩ := e
 simp only at *
 simp only [guessOp, nx8, nx7, nx6, nx5, nx4, nx3, nx2, nx1, eWords, nx_yes, nx_last]
 rw [r1, r2, r3, r4, r5, r6, r7, r8]
def runD : Str → Nat → Option Nat
 | [], d => some d
 | c :: r, d => if c.toNat = 59 ∨ (c.toNat = 32 ∧ d = 0) then none else runD r (deeperN d c.toNat)
theorem runD_app : ∀ {a b : Str} {d d1 d2 : Nat}, runD a d = some d1 → runD b d1 = some d2 → runD (a ++ b) d = some d2
 | [], b, d, d1, d2, h1, h2 => by rw [runD] at h1; injection h1 with h1; rw [h1]; exact h2
 | c :: a, b, d, d1, d2, h1, h2 => by
   rw [runD] at h1
   rw [List.cons_append, runD]
   split at h1
   ·cases h1
   ·rename_i hc
    rw [if_neg hc]; exact runD_app h1 h2
theorem runD_split : ∀ {w : Str} {d d' : Nat}, runD w d = some d' → ∀ cur r, splitAux 32 d cur (w ++ r) = splitAux 32 d' (cur ++ w) r
 | [], d, d', h, cur, r => by rw [runD] at h; injection h with h; rw [h]; simp
 | c :: w, d, d', h, cur, r => by
   rw [runD] at h
   split at h
   ·cases h
   ·rename_i hc
    rw [List.cons_append, splitAux, if_neg (fun e => hc (.inr e)), runD_split h]
    simp
theorem runD_no : ∀ {w : Str} {d d' : Nat}, runD w d = some d' → (59 : UInt8) ∉ w
 | [], _, _, _ => by simp
 | c :: w, d, d', h => by
   rw [runD] at h
   split at h
   ·cases h
   ·rename_i hc
    intro hm
    rcases List.mem_cons.1 hm with e | hm
    ·exact hc (.inl (by rw [← e]; rfl))
    ·exact runD_no h hm
def calmC (c : UInt8) : Prop := c.toNat ≠ 59 ∧ c.toNat ≠ 40 ∧ c.toNat ≠ 41 ∧ c.toNat ≠ 91 ∧ c.toNat ≠ 93
instance (c : UInt8) : Decidable (calmC c) := by unfold calmC; exact inferInstance
theorem deeper_calm {c : UInt8} (h : calmC c) (d : Nat) : deeperN d c.toNat = d := by
 obtain ⟨_, a, b, e, f⟩ := h
 unfold deeperN
 rw [if_neg (by omega), if_neg (by omega)]
theorem runD_calm : ∀ {w : Str} {d : Nat}, (∀ c ∈ w, calmC c) → (d ≠ 0 ∨ ∀ c ∈ w, c.toNat ≠ 32) → runD w d = some d
 | [], _, _, _ => rfl
 | c :: w, d, h, h2 => by
   have hc := h c (.head _)
   rw [runD, if_neg, deeper_calm hc]
   ·exact runD_calm (fun x hx => h x (.tail _ hx)) (h2.imp id fun g x hx => g x (.tail _ hx))
   ·rintro (e | ⟨e1, e2⟩)
    ·exact hc.1 e
    ·rcases h2 with g | g
     ·exact g e2
     ·exact g c (.head _) e1
theorem okB_calm {c : UInt8} (h : okB c = true) : calmC c ∧ c.toNat ≠ 32 := by
 have e : ∀ n : Nat, n < 256 → c = UInt8.ofNat n → c.toNat = n := fun n hn e => by rw [e]; simp; omega
 simp only [okB, okc, okb, Bool.or_eq_true, Bool.and_eq_true, decide_eq_true_eq, beq_iff_eq] at h
 unfold calmC
 rcases h with h | h | h | h | h
 ·omega
 all_goals (subst h; decide)
theorem noB_run {w : Str} (h : NoB w) (d : Nat) : runD w d = some d :=
 runD_calm (fun c hc => (okB_calm (List.all_eq_true.1 h c hc)).1) (.inr fun c hc => (okB_calm (List.all_eq_true.1 h c hc)).2)
theorem textOf_run (f : Flt) (d : Nat) (h : d ≠ 0) : runD (textOf f) d = some d :=
 runD_calm (fun c hc => by
  rcases textOf_mem hc with h | h
  ·exact (okB_calm h).1
  ·subst h; decide) (.inl h)
theorem itoa_run (n : Int) (d : Nat) : runD (Lib.itoa n) d = some d :=
 runD_calm (fun c hc => by unfold calmC; rcases itoa_mem hc with h | h <;> omega) (.inr fun c hc => by rcases itoa_mem hc with h | h <;> omega)
theorem isName_noB {s : Str} (h : isName s = true) : NoB s := by
 simp only [isName, Bool.and_eq_true] at h
 refine List.all_eq_true.2 fun c hc => ?_
 unfold okB; rw [List.all_eq_true.1 h.2 c hc]; rfl
theorem ref_run {r : Rf} (h : refIs r 4 = true) : runD (refText r) 0 = some 0 := by
 rcases refIs_cases h with rfl | rfl | rfl | rfl | rfl | (rfl | rfl | rfl | rfl) | (rfl | rfl | rfl | rfl) | ⟨f, hf, rfl⟩
 all_goals try (decide +kernel)
 have e : refText ⟨4, 0, f⟩ = eachW ++ (textOf f ++ [41]) := by
  unfold refText; rw [if_pos h]
  simp [refBody, kNum]
 rw [e]
 exact runD_app (d1 := 1) (by decide) (runD_app (textOf_run f 1 (by decide)) (by decide))
theorem count_run (f : Flt) : runD (countS f) 0 = some 0 := runD_app (d1 := 1) (by decide) (runD_app (textOf_run f 1 (by decide)) (by decide))
theorem am_run {a : Am} (h : amIs a = true) : runD (amText a) 0 = some 0 := by
 have e : amText a = amBody a := if_pos h
 rw [e]
 rcases amIs_cases h with ⟨n, _, rfl⟩ | ⟨n, _, _, f, _, rfl⟩ | ⟨c, (rfl | rfl | rfl), rfl⟩ | ⟨k, (rfl | rfl | rfl | rfl | rfl), rfl⟩
 ·exact itoa_run n 0
 ·rw [amBody_two]
  split
  ·exact runD_app (itoa_run _ 0) (by rw [runD, if_neg (by decide)]; exact count_run f)
  ·exact count_run f
 all_goals decide +kernel
theorem fltS_run (f : Flt) : runD (fltS f) 0 = some 0 := runD_app (a := [40]) (d1 := 1) (by decide) (runD_app (textOf_run f 1 (by decide)) (by decide))
theorem types_run : ∀ k : Fin 64, runD (typesText k.val) 1 = some 1 := by decide +kernel
theorem colors_run : ∀ k : Fin 32, runD (colorText k.val) 1 = some 1 := by decide +kernel
theorem kw_run : ∀ i : Fin 17, (wd kwT i.val).all okB = true := by decide +kernel
theorem keys_run {m : Nat} (hm : m < 2 ^ 17) : runD (keyText m) 1 = some 1 := by
 refine runD_calm (fun c hc => ?_) (.inl (by decide))
 unfold keyText at hc
 split at hc
 ·have : ∀ c ∈ noneW, okB c = true := by decide
  exact (okB_calm (this c hc)).1
 ·rcases join_mem hc with ⟨w, hw, hc⟩ | hc
  ·obtain ⟨i, hi, rfl⟩ := List.mem_map.1 hw
   exact (okB_calm (List.all_eq_true.1 (kw_run ⟨i, bits_lt hm hi⟩) c hc)).1
  ·simp at hc; subst hc; decide
theorem md_run {r : Md} (h : mdIs r = true) : runD (mdText r) 1 = some 1 := by
 rw [show mdText r = mdBody r from if_pos h]
 cases md_form h with
 | control => decide
 | types2 k h1 h2 => exact runD_app (a := typesV ++ [61]) (d := 1) (d1 := 1) (by decide) (types_run ⟨k, by omega⟩)
 | types3 k h1 h2 => exact runD_app (a := typesPV ++ [61]) (d := 1) (d1 := 1) (by decide) (types_run ⟨k, by omega⟩)
 | sub4 s hs => exact runD_app (a := subV ++ [61]) (d := 1) (d1 := 1) (by decide) (noB_run (isSub_noB hs) 1)
 | sub5 s hs => exact runD_app (a := subPV ++ [61]) (d := 1) (d1 := 1) (by decide) (noB_run (isSub_noB hs) 1)
 | colors6 k h1 => exact runD_app (a := colorsV ++ [61]) (d := 1) (d1 := 1) (by decide) (colors_run ⟨k, by omega⟩)
 | colors7 k h1 h2 => exact runD_app (a := colorsPV ++ [61]) (d := 1) (d1 := 1) (by decide) (colors_run ⟨k, by omega⟩)
 | keys8 k h1 h2 => exact runD_app (a := keysPV ++ [61]) (d := 1) (d1 := 1) (by decide) (keys_run (m := k) (by omega))
 | keys9 k h1 h2 => exact runD_app (a := keysMV ++ [61]) (d := 1) (d1 := 1) (by decide) (keys_run (m := k) (by omega))
 | blank => decide
 | count f hf => exact runD_app (a := ptV ++ [61] ++ countPV) (d := 1) (d1 := 2) (by decide) (runD_app (b := [41]) (d := 2) (d1 := 2) (d2 := 1) (textOf_run f 2 (by decide)) (by decide))
 | set12 n m h1 h2 h3 h4 => exact runD_app (a := ptV ++ [61]) (d := 1) (d1 := 1) (by decide) (runD_app (itoa_run n 1) (runD_app (a := [47]) (d := 1) (d1 := 1) (by decide) (itoa_run m 1)))
 | add13 n m h1 h2 h3 h4 => exact runD_app (a := ptPV ++ [61]) (d := 1) (d1 := 1) (by decide) (runD_app (itoa_run n 1) (runD_app (a := [47]) (d := 1) (d1 := 1) (by decide) (itoa_run m 1)))
 | switch => decide
theorem join_run {sep : Str} {d : Nat} (hs : runD sep d = some d) : ∀ {l : List Str}, (∀ x ∈ l, runD x d = some d) → runD (Lib.join l sep) d = some d
 | [], _ => rfl
 | [a], h => by rw [Lib.join_one]; exact h a (by simp)
 | a :: b :: r, h => by
   rw [join_cons2]
   exact runD_app (runD_app (h a (by simp)) hs) (join_run hs fun x hx => h x (.tail _ hx))
theorem mods_run {l : List Md} (h : l.all mdIs = true) (h0 : l ≠ []) (h6 : l.length ≤ 6) : runD (modsS l) 0 = some 0 := by
 have e : mlText l = Lib.join (l.map mdText) commaV := if_pos ⟨h0, h6, h⟩
 have := join_run (sep := commaV) (d := 1) (by decide) (l := l.map mdText) (fun x hx => by
  obtain ⟨r, hr, rfl⟩ := List.mem_map.1 hx
  exact md_run (List.all_eq_true.1 h r hr))
 unfold modsS
 rw [e]
 exact runD_app (a := [91]) (d1 := 1) (by decide) (runD_app this (by decide))
theorem pool_run {p : Po} (h : poIs p = true) : runD (poText p) 0 = some 0 := by
 unfold poText coText
 unfold poIs at h
 rw [if_pos h]
 split
 ·decide
 ·refine runD_calm (fun c hc => ?_) (.inr fun c hc => ?_)
  all_goals
   unfold coBody at hc
   simp only [coIs, in09C, Bool.and_eq_true, decide_eq_true_eq] at h
   rcases List.mem_append.1 hc with hc | hc
   ·rw [rep_mem hc]; decide
   rcases List.mem_append.1 hc with hc | hc
   ·have := num_digit (by omega) hc
    first | (unfold calmC; omega) | omega
   ·have := syms_let _ c hc
    unfold isLet at this
    simp only [Bool.or_eq_true, beq_iff_eq] at this
    rcases this with rfl | rfl | rfl | rfl | rfl <;> decide
theorem opName_run : ∀ k : Fin 27, runD (opName (k.val : Int)) 0 = some 0 := by decide +kernel
theorem zone_run {z : Int} (h0 : 0 ≤ z) (h1 : z ≤ 4) : runD (zoneName z) 0 = some 0 := by
 have : ∀ k : Fin 5, runD (zoneName (k.val : Int)) 0 = some 0 := by decide +kernel
 have := this ⟨z.toNat, by omega⟩
 simp only at this
 rwa [show ((z.toNat : Nat) : Int) = z by omega] at this
theorem ctr_run {c : Int} (h : c = 0 ∨ c = 1 ∨ c = 2) : runD (cntText c) 0 = some 0 := by rcases h with rfl | rfl | rfl <;> decide
theorem opt_mem {b : Bool} {s x : Str} (h : x ∈ opt b s) : b = true ∧ x = s := by
 cases b
 ·cases h
 ·exact ⟨rfl, by simpa [opt] using h⟩
theorem words_run {e : Ef} (h : eIs e 4 = true) : ∀ x ∈ eWords e, runD x 0 = some 0 := by
 have o := e_ok h
 obtain ⟨k, hk, _⟩ := o.opk
 intro x hx
 unfold eWords at hx
 rcases List.mem_cons.1 hx with rfl | hx
 ·rw [hk]; exact opName_run k
 rcases List.mem_append.1 hx with hx | hx
 ·obtain ⟨hu, rfl⟩ := opt_mem hx
  have := o.ref; unfold fRef at this; rw [if_pos hu] at this; exact ref_run this
 rcases List.mem_append.1 hx with hx | hx
 ·obtain ⟨hu, rfl⟩ := opt_mem hx
  have := o.zone; unfold fZone at this; rw [if_pos hu] at this
  simp only [Bool.and_eq_true, decide_eq_true_eq] at this; exact zone_run this.1 this.2
 rcases List.mem_append.1 hx with hx | hx
 ·obtain ⟨hu, rfl⟩ := opt_mem hx
  have := o.ctr; unfold fCtr at this; rw [if_pos hu] at this; exact ctr_run (cntText_some (not_nil this))
 rcases List.mem_append.1 hx with hx | hx
 ·obtain ⟨hu, rfl⟩ := opt_mem hx
  have := o.card; unfold fCard at this; rw [if_pos hu] at this; exact noB_run (isName_noB this) 0
 rcases List.mem_append.1 hx with hx | hx
 ·obtain ⟨hu, rfl⟩ := opt_mem hx
  have := o.amt; unfold fAmt at this; rw [if_pos hu] at this; exact am_run this
 rcases List.mem_append.1 hx with hx | hx
 ·obtain ⟨hu, rfl⟩ := opt_mem hx
  have := o.mods; unfold fMods at this; rw [if_pos hu] at this
  obtain ⟨a, b, c⟩ := ml_ok this
  exact mods_run c a b
 rcases List.mem_append.1 hx with hx | hx
 ·obtain ⟨hu, rfl⟩ := opt_mem hx
  have := o.pool; unfold fPool at this; rw [if_pos hu, Bool.and_eq_true] at this
  exact pool_run ((poText_iff _).1 (not_nil this.2))
 ·obtain ⟨hu, rfl⟩ := opt_mem hx
  exact fltS_run _
theorem split_join : ∀ {l : List Str}, l ≠ [] → (∀ x ∈ l, runD x 0 = some 0) → splitDep 32 (Lib.join l [32]) = l
 | [], h, _ => absurd rfl h
 | [a], _, h => by
   have := runD_split (h a (by simp)) [] []
   rw [Lib.join_one]
   unfold splitDep
   rw [List.append_nil] at this
   rw [this]; rfl
 | a :: b :: r, _, h => by
   have ih := split_join (l := b :: r) (by simp) (fun x hx => h x (.tail _ hx))
   have h1 := runD_split (h a (by simp)) [] ([32] ++ Lib.join (b :: r) [32])
   rw [join_cons2, List.append_assoc]
   unfold splitDep at ih ⊢
   rw [h1]
   show splitAux 32 0 a (32 :: Lib.join (b :: r) [32]) = _
   rw [splitAux, if_pos ⟨by decide, rfl⟩, show deeperN 0 (32 : UInt8).toNat = 0 from by decide, ih]
theorem eText_yes {e : Ef} (h : eIs e 4 = true) : eText e = Lib.join (eWords e) [32] := if_pos h
theorem eText_no {e : Ef} (h : eIs e 4 = false) : eText e = [] := if_neg (by rw [h]; decide)
theorem eText_ne {e : Ef} (h : eIs e 4 = true) : eText e ≠ [] := by
 rw [eText_yes h]
 obtain ⟨k, hk, h1⟩ := (e_ok h).opk
 have hn : opName e.op ≠ [] := by rw [hk]; exact opName_ne k h1
 unfold eWords
 generalize (opt (uR e.op) (refText e.ref) ++ _) = r
 cases r with
 | nil => rw [Lib.join_one]; exact hn
 | cons a r => rw [join_cons2]; simp [hn]
theorem split_text {e : Ef} (h : eIs e 4 = true) : splitDep 32 (eText e) = eWords e := by
 rw [eText_yes h]
 exact split_join (by simp [eWords]) (words_run h)
theorem eParse_text {e : Ef} (h : eIs e 4 = true) : eParse (eText e) = some e := by
 unfold eParse
 rw [split_text h, guess_words h, if_pos ⟨eText_ne h, rfl⟩]
theorem eText_no59 (e : Ef) : (59 : UInt8) ∉ eText e := by
 cases h : eIs e 4 with
 | false => rw [eText_no h]; simp
 | true =>
   rw [eText_yes h]
   intro hm
   rcases join_mem hm with ⟨w, hw, hc⟩ | hc
   ·exact runD_no (words_run h w hw) hc
   ·simp at hc
def cntC (c : Co) (b : UInt8) : Option Co :=
 if b = 88 then some { c with x := c.x + 1 }
 else if 48 ≤ b.toNat ∧ b.toNat ≤ 57 then some { c with g := 10 * c.g + ((b.toNat : Int) - 48) }
 else if b = 65 then some { c with c0 := c.c0 + 1 }
 else if b = 67 then some { c with c1 := c.c1 + 1 }
 else if b = 74 then some { c with c2 := c.c2 + 1 }
 else if b = 82 then some { c with c3 := c.c3 + 1 }
 else if b = 69 then some { c with c4 := c.c4 + 1 }
 else none
theorem coNum_len : ∀ k : Fin 100, (coNum (k.val : Int)).length ≤ 2 := by decide +kernel
theorem coBody_len {c : Co} (h : coIs c = true) : (coBody c).length ≤ 60 := by
 simp only [coIs, in09C, Bool.and_eq_true, decide_eq_true_eq] at h
 have h1 := coNum_len ⟨c.g.toNat, by omega⟩
 simp only at h1
 rw [show ((c.g.toNat : Nat) : Int) = c.g by omega] at h1
 unfold coBody coSyms rep
 simp only [List.length_append, List.length_replicate]
 omega
theorem coText_len (c : Co) : (coText c).length ≤ 60 := by
 unfold coText
 split
 ·split
  ·decide
  ·exact coBody_len ‹_›
 ·decide
theorem cntC_small {c d : Co} {b : UInt8} {n : Int} (h : cntC c b = some d) (hx : 0 ≤ c.x ∧ c.x ≤ n) (h0 : 0 ≤ c.c0 ∧ c.c0 ≤ n) (h1 : 0 ≤ c.c1 ∧ c.c1 ≤ n) (h2 : 0 ≤ c.c2 ∧ c.c2 ≤ n) (h3 : 0 ≤ c.c3 ∧ c.c3 ≤ n) (h4 : 0 ≤ c.c4 ∧ c.c4 ≤ n) (hg : 0 ≤ c.g) :
 (0 ≤ d.x ∧ d.x ≤ n + 1) ∧ (0 ≤ d.c0 ∧ d.c0 ≤ n + 1) ∧ (0 ≤ d.c1 ∧ d.c1 ≤ n + 1) ∧ (0 ≤ d.c2 ∧ d.c2 ≤ n + 1) ∧ (0 ≤ d.c3 ∧ d.c3 ≤ n + 1) ∧ (0 ≤ d.c4 ∧ d.c4 ≤ n + 1) ∧ 0 ≤ d.g := by
 unfold cntC at h
 repeat' split at h
 all_goals first | (cases h; done) | (obtain rfl := Option.some.inj h; simp only; omega)
def semiV : Str := [59, 32]
def ssAux : Bool → Str → Str → List Str
 | _, cur, [] => [cur]
 | true, cur, _ :: r => ssAux false cur r
 | false, cur, c :: r => if c = 59 ∧ r.head? = some 32 then cur :: ssAux true [] r else ssAux false (cur ++ [c]) r
def ssplit (s : Str) : List Str := ssAux false [] s
theorem ssAux_sep (cur r : Str) : ssAux false cur (59 :: 32 :: r) = cur :: ssAux false [] r := by
 rw [ssAux, if_pos ⟨rfl, rfl⟩, ssAux]
theorem ssAux_move (c : UInt8) (cur r : Str) (h : ¬ (c = 59 ∧ r.head? = some 32)) : ssAux false cur (c :: r) = ssAux false (cur ++ [c]) r := by
 rw [ssAux, if_neg h]
theorem ssAux_word : ∀ (x cur r : Str), (59 : UInt8) ∉ x → ssAux false cur (x ++ 59 :: 32 :: r) = (cur ++ x) :: ssAux false [] r
 | [], cur, r, _ => by rw [List.nil_append, ssAux_sep, List.append_nil]
 | c :: x, cur, r, h => by
   rw [List.cons_append, ssAux_move _ _ _ (fun e => h (by rw [← e.1]; exact .head _)), ssAux_word x _ r (fun m => h (.tail _ m))]; simp
theorem ssAux_last : ∀ (x cur : Str), (59 : UInt8) ∉ x → ssAux false cur x = [cur ++ x]
 | [], cur, _ => by rw [ssAux, List.append_nil]
 | c :: x, cur, h => by
   rw [ssAux_move _ _ _ (fun e => h (by rw [← e.1]; exact .head _)), ssAux_last x _ (fun m => h (.tail _ m))]; simp
theorem ssplit_join : ∀ (l : List Str), l ≠ [] → (∀ x ∈ l, (59 : UInt8) ∉ x) → ssplit (Lib.join l semiV) = l
 | [], h, _ => absurd rfl h
 | [a], _, h => by unfold ssplit; rw [Lib.join_one, ssAux_last a [] (h a (by simp))]; rfl
 | a :: b :: r, _, h => by
   have ih := ssplit_join (b :: r) (by simp) (fun x hx => h x (.tail _ hx))
   unfold ssplit at ih ⊢
   rw [join_cons2, List.append_assoc, show semiV ++ Lib.join (b :: r) semiV = 59 :: 32 :: Lib.join (b :: r) semiV from rfl, ssAux_word a [] _ (h a (by simp)), ih]; rfl
theorem ssAux_len : ∀ (s cur : Str) (b : Bool), (ssAux b cur s).length ≤ s.length + 1
 | [], cur, b => by cases b <;> simp [ssAux]
 | c :: r, cur, true => by rw [ssAux]; have := ssAux_len r cur false; simp; omega
 | c :: r, cur, false => by
   rw [ssAux]; split
   ·have := ssAux_len r [] true; simp; omega
   ·have := ssAux_len r (cur ++ [c]) false; simp; omega
theorem ssAux_mem : ∀ (s cur : Str) (b : Bool), ∀ x ∈ ssAux b cur s, x.length ≤ cur.length + s.length
 | [], cur, b, x, h => by cases b <;> (simp [ssAux] at h; subst h; simp)
 | c :: r, cur, true, x, h => by rw [ssAux] at h; have := ssAux_mem r cur false x h; simp; omega
 | c :: r, cur, false, x, h => by
   rw [ssAux] at h
   split at h
   ·rcases List.mem_cons.1 h with rfl | h
    ·simp
    ·have := ssAux_mem r [] true x h; simp at this ⊢; omega
   ·have := ssAux_mem r _ false x h; simp at this ⊢; omega
theorem semi_pre (c : UInt8) (r : Str) : semiV.isPrefixOf (c :: r) = (c == 59 && r.head? == some 32) := by
 cases r with
 | nil => simp [semiV, List.isPrefixOf]
 | cons d r =>
   rw [Bool.eq_iff_iff]
   simp [semiV]
   constructor
   ·rintro ⟨h1, h2⟩; exact ⟨h1.symm, h2.symm⟩
   ·rintro ⟨h1, h2⟩; exact ⟨h1.symm, h2.symm⟩
theorem ss_idx : ∀ (s cur : Str), (Lib.index s semiV = -1 ∧ ssAux false cur s = [cur ++ s]) ∨ (∃ i : Nat, Lib.index s semiV = i ∧ i + 2 ≤ s.length ∧ ssAux false cur s = (cur ++ s.take i) :: ssAux false [] (s.drop (i + 2)))
 | [], cur => .inl ⟨rfl, by rw [ssAux, List.append_nil]⟩
 | c :: r, cur => by
   by_cases h : c = 59 ∧ r.head? = some 32
   ·obtain ⟨rfl, hr⟩ := h
    cases r with
    | nil => cases hr
    | cons d r =>
      obtain rfl : d = 32 := by simpa using hr
      refine .inr ⟨0, ?_, by simp, ?_⟩
      ·unfold Lib.index
       rw [semi_pre]; rfl
      ·rw [ssAux_sep]; simp
   ·have hp : semiV.isPrefixOf (c :: r) = false := by
     rw [semi_pre]
     cases hb : (c == 59 && r.head? == some 32) with
     | false => rfl
     | true => simp only [Bool.and_eq_true, beq_iff_eq] at hb; exact absurd hb h
    rw [ssAux_move _ _ _ h]
    unfold Lib.index
    rw [hp, if_neg (by decide)]
    rcases ss_idx r (cur ++ [c]) with ⟨h1, h2⟩ | ⟨i, h1, h2, h3⟩
    ·left; rw [h1, h2]; simp
    ·right
     refine ⟨i + 1, ?_, by simp; omega, ?_⟩
     ·rw [h1, if_neg (by rw [beq_iff_eq]; omega)]; simp
     ·rw [h3]; simp
theorem ssplit_idx (s : Str) : (Lib.index s semiV = -1 ∧ ssplit s = [s]) ∨ (∃ i : Nat, Lib.index s semiV = i ∧ i + 2 ≤ s.length ∧ ssplit s = s.take i :: ssplit (s.drop (i + 2))) := by
 have := ss_idx s []
 simpa [ssplit] using this
theorem splitK_semi : ∀ (n : Nat) (s : Str), s.length ≤ n → Lib.splitK semiV 0 (Lib.count s semiV) s = ssplit s
 | n, s, hn => by
   rcases ssplit_idx s with ⟨h1, h2⟩ | ⟨i, h1, h2, h3⟩
   ·rw [Lib.count_miss h1, h2]; rfl
   ·have hc := Lib.count_hit (sub := semiV) (by decide) h1
    have hl : semiV.length = 2 := rfl
    rw [hl] at hc
    cases n with
    | zero => omega
    | succ n =>
      have ih := splitK_semi n (s.drop (i + 2)) (by simp; omega)
      rw [hc, Nat.add_comm, Lib.splitK, if_neg (by rw [h1, beq_iff_eq]; omega), h1, hl, h3]
      simp only [Int.toNat_natCast, Nat.add_zero]
      rw [ih]
theorem splitB_semi (s : ByteArray) : (Lib.splitB ⟨#[59, 32]⟩ 0 (Lib.countB s ⟨#[59, 32]⟩) s).map L = ssplit (L s) := by
 have h := Lib.splitB_data ⟨#[59, 32]⟩ 0 (Lib.countB s ⟨#[59, 32]⟩) s
 exact h.trans (splitK_semi _ (L s) (Nat.le_refl _))
def elText (l : List Ef) : Str := if l ≠ [] ∧ l.length ≤ 8 ∧ (l.all fun e => eIs e 4) = true then Lib.join (l.map eText) semiV else []
def elRun : List Ef → List Str → Option (List Ef)
 | out, [] => some out
 | out, p :: r => match eParse p with
   | none => none
   | some m => if out.length = 8 then none else elRun (out ++ [m]) r
def elParse (s : Str) : Option (List Ef) := elRun [] (ssplit s)
theorem elRun_text : ∀ (l out : List Ef), (l.all fun e => eIs e 4) = true → out.length + l.length ≤ 8 → elRun out (l.map eText) = some (out ++ l)
 | [], out, _, _ => by simp [elRun]
 | m :: l, out, h, h6 => by
   simp only [List.all_cons, Bool.and_eq_true] at h
   simp only [List.length_cons] at h6
   rw [List.map_cons, elRun, eParse_text h.1]
   simp only
   rw [if_neg (by omega), elRun_text l (out ++ [m]) h.2 (by simp; omega)]
   simp
theorem elParse_text {l : List Ef} (h0 : l ≠ []) (h6 : l.length ≤ 8) (h : (l.all fun e => eIs e 4) = true) : elParse (elText l) = some l := by
 unfold elParse elText
 rw [if_pos ⟨h0, h6, h⟩, ssplit_join _ (by simpa using h0) (fun x hx => by obtain ⟨e, _, rfl⟩ := List.mem_map.1 hx; exact eText_no59 e), elRun_text l [] h (by simpa using h6)]
 rfl
def emptyE (op : Int) : Ef := ⟨op, zeroR, zeroA, 0, 0, ⟨#[]⟩, zeroF, zeroPo, []⟩
def partS (e : Ef) (f : UInt8) : Str :=
 if f = 114 then refText e.ref else if f = 122 then zoneName e.zone else if f = 107 then cntText e.ctr else if f = 99 then L e.card else if f = 97 then amText e.amt else if f = 109 then modsS e.mods else if f = 112 then poText e.pool else fltS e.flt
theorem words_uses (e : Ef) (h : ∃ k : Fin 27, e.op = (k.val : Int) ∧ 1 ≤ k.val) : eWords e = opName e.op :: (usesS e.op).map (partS e) := by
 obtain ⟨op, ref, amt, ctr, zone, card, flt, pool, mods⟩ := e
 obtain ⟨⟨k, hk⟩, h1, h2⟩ := h
 simp only at h1 h2
 subst h1
 have : k = 1 ∨ k = 2 ∨ k = 3 ∨ k = 4 ∨ k = 5 ∨ k = 6 ∨ k = 7 ∨ k = 8 ∨ k = 9 ∨ k = 10 ∨ k = 11 ∨ k = 12 ∨ k = 13 ∨ k = 14 ∨ k = 15 ∨ k = 16 ∨ k = 17 ∨ k = 18 ∨ k = 19 ∨ k = 20 ∨ k = 21 ∨ k = 22 ∨ k = 23 ∨ k = 24 ∨ k = 25 ∨ k = 26 := by omega
 rcases this with rfl | rfl | rfl | rfl | rfl | rfl | rfl | rfl | rfl | rfl | rfl | rfl | rfl | rfl | rfl | rfl | rfl | rfl | rfl | rfl | rfl | rfl | rfl | rfl | rfl | rfl
 all_goals rfl
def rowOf (k n : Nat) : Rf := ⟨(k : Int), (n : Int), zeroF⟩
def qHit (s : Str) (p : Nat × Nat) : Bool := !(p.1 == 4) && (refIs (rowOf p.1 p.2) 4 && refText (rowOf p.1 p.2) == s)
def candN (k n : Nat) : List (Nat × Nat) := (List.range' n (5 - n)).map fun m => (k, m)
def candK : Nat → Nat → List (Nat × Nat)
 | _, 0 => []
 | k, j + 1 => candN k 0 ++ candK (k + 1) j
def qLoop (s : Str) : Option (Nat × Nat) := (candK 1 8).find? (qHit s)
def qInner (s : Str) : Str := (s.take (s.length - 1)).drop 5
def qShape (s : Str) : Bool := !decide (s.length < 6) && (s.take 5 == eachW && byt s (s.length - 1) == 41)
def qRefParse (s : Str) : Option Rf := match qLoop s with
 | some p => some (rowOf p.1 p.2)
 | none => if qShape s = true then (match parseS (qInner s) with | some f => some ⟨4, 0, f⟩ | none => none) else none
end Go.Proofs.YtdnnbfbhifelkaaGreatDoor
