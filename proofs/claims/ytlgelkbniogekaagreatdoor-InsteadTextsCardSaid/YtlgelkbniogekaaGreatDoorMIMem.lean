/- Plain words: replacement effects (chapter 19); Parse inverts Text. No program in sight. Plain words on memory: replacement effects' rows and ==. Conditions: none. -/
import Derived.Test.YtlgelkbniogekaaGreatDoorMCnt
namespace Go.Proofs.YtlgelkbniogekaaGreatDoor
set_option linter.all false
open Go.ChangeShapes Go.WideShapes Go.RowKit
structure Rp where
  on : Int
  who : Int
  f : Flt
  d : Int
  n : Int
  z : Int
  c : Int
def Rp.cells (r : Rp) : Array Value := #[.int .i64 r.on, .int .i64 r.who, .int .i64 r.f.zone, .int .i64 r.f.who, .int .i64 r.f.self, .int .i64 r.f.types, .int .i64 r.f.ntypes, .int .i64 r.f.colors, .int .i64 r.f.ncolors, .string r.f.sub, .int .i64 r.f.keys, .int .i64 r.f.tap, .int .i64 r.f.pk, .int .i64 r.f.pn, .int .i64 r.f.tk, .int .i64 r.f.tn, .int .i64 r.f.vk, .int .i64 r.f.vn, .int .i64 r.d, .int .i64 r.n, .int .i64 r.z, .int .i64 r.c]
def zeroI : Rp := ⟨0, 0, zeroF, 0, 0, 0, 0⟩
def zonI : List Str := [[98, 97, 116, 116, 108, 101, 102, 105, 101, 108, 100], [104, 97, 110, 100], [108, 105, 98, 114, 97, 114, 121], [103, 114, 97, 118, 101, 121, 97, 114, 100], [101, 120, 105, 108, 101], [115, 116, 97, 99, 107]]
def preventV : Str := [112, 114, 101, 118, 101, 110, 116]
def reduceV : Str := [114, 101, 100, 117, 99, 101]
def doubleV : Str := [100, 111, 117, 98, 108, 101]
def addV : Str := [97, 100, 100]
def tappedV : Str := [116, 97, 112, 112, 101, 100]
def withV : Str := [119, 105, 116, 104]
def skipV : Str := [115, 107, 105, 112]
def hurtV : Str := [104, 117, 114, 116]
def damageV : Str := [100, 97, 109, 97, 103, 101]
def diesV : Str := [100, 105, 101, 115]
def entersV : Str := [101, 110, 116, 101, 114, 115]
def drawV : Str := [100, 114, 97, 119]
def gainV : Str := [103, 97, 105, 110]
def loseV : Str := [108, 111, 115, 101]
def createV : Str := [99, 114, 101, 97, 116, 101]
def putV : Str := [112, 117, 116]
def zoneName (z : Int) : Str := if z = 0 then wd zonI 0 else if z = 1 then wd zonI 1 else if z = 2 then wd zonI 2 else if z = 3 then wd zonI 3 else if z = 4 then wd zonI 4 else if z = 5 then wd zonI 5 else []
def doesR (on d : Int) : Bool :=
  if on = 1 then d == 1 || (d == 2 || (d == 3 || d == 4))
  else if on = 2 then d == 5 || (d == 6 || d == 7)
  else if on = 3 then d == 8 || d == 4
  else if on = 4 ∨ on = 5 ∨ on = 10 ∨ on = 8 then d == 8 || (d == 4 || d == 3)
  else false
def filtR (on who : Int) : Bool := on == 2 || (on == 8 || (on == 1 && who == 0))
def normR (r : Rp) : Rp := ⟨r.on, if r.on = 2 ∨ r.on = 8 then 0 else r.who, if filtR r.on r.who = true then r.f else zeroF, r.d, if r.d = 2 ∨ r.d = 4 ∨ r.d = 7 then r.n else 0, if r.d = 5 then r.z else 0, if r.d = 7 then r.c else 0⟩
def rpEq (a b : Rp) : Bool := a.on == b.on && (a.who == b.who && (fltEq a.f b.f && (a.d == b.d && (a.n == b.n && (a.z == b.z && a.c == b.c)))))
theorem rpEq_iff (a b : Rp) : rpEq a b = true ↔ a = b := by
  obtain ⟨a1, a2, a3, a4, a5, a6, a7⟩ := a
  obtain ⟨b1, b2, b3, b4, b5, b6, b7⟩ := b
  simp [rpEq, fltEq_iff]
theorem rpEq_refl (a : Rp) : rpEq a a = true := (rpEq_iff a a).2 rfl
def numsR (r : Rp) : Bool :=
  if r.d = 2 ∨ r.d = 4 then decide (1 ≤ r.n) && decide (r.n ≤ 99)
  else if r.d = 7 then decide (1 ≤ r.n) && (decide (r.n ≤ 99) && (r.c == 0 || (r.c == 1 || r.c == 2)))
  else if r.d = 5 then r.z == 1 || (r.z == 2 || r.z == 4)
  else true
/-- A replacement effect is valid. -/
def rpIs (r : Rp) : Bool := doesR r.on r.d && (rpEq r (normR r) && (decide (0 ≤ r.who) && (decide (r.who ≤ 2) && (fltIs r.f && (r.f.zone == 0 && numsR r)))))
def actS (d n z c : Int) : Str :=
  if d = 1 then preventV else if d = 2 then reduceV ++ 32 :: Lib.itoa n else if d = 3 then doubleV else if d = 4 then addV ++ 32 :: Lib.itoa n
  else if d = 5 then zoneName z else if d = 6 then tappedV else if d = 7 then withV ++ 32 :: (Lib.itoa n ++ 32 :: cntText c) else skipV
def aboutS (on who d : Int) : Str :=
  if on = 1 then (if who = 0 then damageV else hurtV) else if on = 2 then (if d = 5 then diesV else entersV) else if on = 3 then drawV else if on = 4 then gainV
  else if on = 5 then loseV else if on = 10 then createV else putV
def whomS (on who : Int) (f : Flt) : Str := if filtR on who = true then 40 :: (textOf f ++ [41]) else whoText who
def rpBody (r : Rp) : Str := aboutS r.on r.who r.d ++ 32 :: (whomS r.on r.who r.f ++ 32 :: actS r.d r.n r.z r.c)
/-- A replacement effect's text; empty if it is not valid. -/
def rpText (r : Rp) : Str := if rpIs r = true then rpBody r else []
def kindOf (w : Str) : Int :=
  if w = damageV ∨ w = hurtV then 1 else if w = diesV ∨ w = entersV then 2 else if w = drawV then 3 else if w = gainV then 4 else if w = loseV then 5
  else if w = createV then 10 else if w = putV then 8 else 0
def whomOf (w : Str) : Option (Int × Flt) := if Lib.hasPrefix w [40] = true then (parseS (Lib.trimSuffix (Lib.trimPrefix w [40]) [41])).map fun f => (0, f) else some (whoIx w, zeroF)
def zoneIx (w : Str) : Int := if w = wd zonI 5 then 5 else if w = wd zonI 4 then 4 else if w = wd zonI 3 then 3 else if w = wd zonI 2 then 2 else if w = wd zonI 1 then 1 else 0
def doOf (w : Str) : Int := if w = preventV then 1 else if w = reduceV then 2 else if w = doubleV then 3 else if w = addV then 4 else if w = tappedV then 6 else if w = skipV then 8 else 5
/-- The words of an action, taken in. -/
def doingR (on who : Int) (f : Flt) (l : List Str) : Rp :=
  if l.length = 3 ∧ l.headD [] = withV then ⟨on, who, f, 7, (numOf (l.getD 1 [])).getD 0, 0, (((cntIx (l.getD 2 [])).getD 0 : Nat) : Int)⟩
  else ⟨on, who, f, doOf (l.headD []), if l.length = 2 then (numOf (l.getD 1 [])).getD 0 else 0, if doOf (l.headD []) = 5 then zoneIx (l.headD []) else 0, 0⟩
def guessI (s : Str) : Option Rp := match splitDep 32 s with
  | a :: b :: c :: l => (whomOf b).map fun p => doingR (kindOf a) p.1 p.2 (c :: l)
  | _ => none
def rpParse (s : Str) : Option Rp := match guessI s with | some r => if rpIs r = true ∧ rpText r = s then some r else none | none => none
def plainC (l : Str) : Bool := l.all fun c => !(c.toNat == 32 || (c.toNat == 40 || (c.toNat == 41 || (c.toNat == 91 || c.toNat == 93))))
def noBr (l : Str) : Bool := l.all fun c => !(c.toNat == 40 || (c.toNat == 41 || (c.toNat == 91 || c.toNat == 93)))
theorem sp_plain : ∀ (l cur r : Str), plainC l = true → splitAux 32 0 cur (l ++ 32 :: r) = (cur ++ l) :: splitAux 32 0 [] r
  | [], cur, r, _ => by
    have e : deeperN 0 (32 : UInt8).toNat = 0 := by decide
    rw [List.nil_append, splitAux, if_pos ⟨by decide, rfl⟩, e, List.append_nil]
  | c :: l, cur, r, h => by
    simp only [plainC, List.all_cons, Bool.and_eq_true, Bool.not_eq_true', Bool.or_eq_false_iff, beq_eq_false_iff_ne] at h
    obtain ⟨⟨h1, h2, h3, h4, h5⟩, hl⟩ := h
    have e : deeperN 0 c.toNat = 0 := by unfold deeperN; rw [if_neg (by omega), if_neg (by omega)]
    rw [List.cons_append, splitAux, if_neg (fun x => h1 x.1), e, sp_plain l _ r (by simpa [plainC] using hl)]; simp
theorem sp_last : ∀ (l cur : Str), plainC l = true → splitAux 32 0 cur l = [cur ++ l]
  | [], cur, _ => by rw [splitAux, List.append_nil]
  | c :: l, cur, h => by
    simp only [plainC, List.all_cons, Bool.and_eq_true, Bool.not_eq_true', Bool.or_eq_false_iff, beq_eq_false_iff_ne] at h
    obtain ⟨⟨h1, h2, h3, h4, h5⟩, hl⟩ := h
    have e : deeperN 0 c.toNat = 0 := by unfold deeperN; rw [if_neg (by omega), if_neg (by omega)]
    rw [splitAux, if_neg (fun x => h1 x.1), e, sp_last l _ (by simpa [plainC] using hl)]; simp
theorem sp_in : ∀ (l cur r : Str), noBr l = true → splitAux 32 1 cur (l ++ 41 :: r) = splitAux 32 0 (cur ++ (l ++ [41])) r
  | [], cur, r, _ => by
    have e : deeperN 1 (41 : UInt8).toNat = 0 := by decide
    rw [List.nil_append, splitAux, if_neg (by decide), e, List.nil_append]
  | c :: l, cur, r, h => by
    simp only [noBr, List.all_cons, Bool.and_eq_true, Bool.not_eq_true', Bool.or_eq_false_iff, beq_eq_false_iff_ne] at h
    obtain ⟨⟨h2, h3, h4, h5⟩, hl⟩ := h
    have e : deeperN 1 c.toNat = 1 := by unfold deeperN; rw [if_neg (by omega), if_neg (by omega)]
    rw [List.cons_append, splitAux, if_neg (fun x => by cases x.2), e, sp_in l _ r (by simpa [noBr] using hl)]; simp
theorem sp_group (m r : Str) (h : noBr m = true) : splitAux 32 0 [] (40 :: (m ++ [41]) ++ 32 :: r) = (40 :: (m ++ [41])) :: splitAux 32 0 [] r := by
  have e : deeperN 0 (40 : UInt8).toNat = 1 := by decide
  have e2 : (40 :: (m ++ [41]) ++ 32 :: r : Str) = 40 :: (m ++ 41 :: 32 :: r) := by simp
  rw [e2, splitAux, if_neg (by decide), e, sp_in m _ _ h]
  have := sp_plain [] ([] ++ [40] ++ (m ++ [41])) r rfl
  simp at this ⊢
  exact this
theorem textOf_noBr (f : Flt) : noBr (textOf f) = true := by
  unfold noBr
  rw [List.all_eq_true]
  intro c hc
  have hall : ∀ k : Fin 256, okB (UInt8.ofNat k.val) = true ∨ UInt8.ofNat k.val = 32 → (!((UInt8.ofNat k.val).toNat == 40 || ((UInt8.ofNat k.val).toNat == 41 || ((UInt8.ofNat k.val).toNat == 91 || (UInt8.ofNat k.val).toNat == 93)))) = true := by decide +kernel
  have := hall ⟨c.toNat, c.toNat_lt⟩
  simp only [UInt8.ofNat_toNat] at this
  exact this (textOf_mem hc)
theorem itoa_plain (n : Nat) : plainC (Lib.itoa n) = true := by
  unfold plainC
  rw [List.all_eq_true]
  intro c hc
  have := itoa_mem hc
  simp; omega
/-- The words of an action's text. -/
theorem act_words (d n z c : Int) (hn : 0 ≤ n) (hz : z = 0 ∨ z = 1 ∨ z = 2 ∨ z = 4) (hc : c = 0 ∨ c = 1 ∨ c = 2) : splitAux 32 0 [] (actS d n z c) =
    if d = 1 then [preventV] else if d = 2 then [reduceV, Lib.itoa n] else if d = 3 then [doubleV] else if d = 4 then [addV, Lib.itoa n]
    else if d = 5 then [zoneName z] else if d = 6 then [tappedV] else if d = 7 then [withV, Lib.itoa n, cntText c] else [skipV] := by
  obtain ⟨m, rfl⟩ : ∃ m : Nat, n = (m : Int) := ⟨n.toNat, by omega⟩
  unfold actS
  repeat' split
  · exact sp_last _ _ (by decide)
  · rw [sp_plain _ _ _ (by decide), sp_last _ _ (itoa_plain m)]; rfl
  · exact sp_last _ _ (by decide)
  · rw [sp_plain _ _ _ (by decide), sp_last _ _ (itoa_plain m)]; rfl
  · rcases hz with rfl | rfl | rfl | rfl
    · exact sp_last (zoneName 0) [] (by decide)
    · exact sp_last (zoneName 1) [] (by decide)
    · exact sp_last (zoneName 2) [] (by decide)
    · exact sp_last (zoneName 4) [] (by decide)
  · exact sp_last _ _ (by decide)
  · rw [sp_plain _ _ _ (by decide), sp_plain _ _ _ (itoa_plain m), sp_last _ _ (by rcases hc with rfl | rfl | rfl <;> decide)]; rfl
  · exact sp_last _ _ (by decide)
theorem does_cases {on d : Int} (h : doesR on d = true) : (on = 1 ∧ (d = 1 ∨ d = 2 ∨ d = 3 ∨ d = 4)) ∨ (on = 2 ∧ (d = 5 ∨ d = 6 ∨ d = 7)) ∨ (on = 3 ∧ (d = 8 ∨ d = 4)) ∨ ((on = 4 ∨ on = 5 ∨ on = 10 ∨ on = 8) ∧ (d = 8 ∨ d = 4 ∨ d = 3)) := by
  unfold doesR at h
  split at h
  · simp only [Bool.or_eq_true, beq_iff_eq] at h; exact .inl ⟨by assumption, h⟩
  split at h
  · simp only [Bool.or_eq_true, beq_iff_eq] at h; exact .inr (.inl ⟨by assumption, h⟩)
  split at h
  · simp only [Bool.or_eq_true, beq_iff_eq] at h; exact .inr (.inr (.inl ⟨by assumption, h⟩))
  split at h
  · simp only [Bool.or_eq_true, beq_iff_eq] at h; exact .inr (.inr (.inr ⟨by assumption, h⟩))
  · cases h
def actOk (d n z c : Int) : Prop := ((d = 1 ∨ d = 3 ∨ d = 6 ∨ d = 8) ∧ n = 0 ∧ z = 0 ∧ c = 0) ∨ ((d = 2 ∨ d = 4) ∧ (1 ≤ n ∧ n ≤ 99) ∧ z = 0 ∧ c = 0) ∨ (d = 5 ∧ n = 0 ∧ (z = 1 ∨ z = 2 ∨ z = 4) ∧ c = 0) ∨ (d = 7 ∧ (1 ≤ n ∧ n ≤ 99) ∧ z = 0 ∧ (c = 0 ∨ c = 1 ∨ c = 2))
theorem rp_facts {r : Rp} (h : rpIs r = true) : doesR r.on r.d = true ∧ (r.who = 0 ∨ r.who = 1 ∨ r.who = 2) ∧ fltIs r.f = true ∧ r.f.zone = 0 ∧ (filtR r.on r.who = true → r.who = 0) ∧ (filtR r.on r.who = false → r.f = zeroF) ∧ actOk r.d r.n r.z r.c := by
  obtain ⟨on, who, f, d, n, z, c⟩ := r
  unfold rpIs at h
  simp only [Bool.and_eq_true, decide_eq_true_eq, beq_iff_eq] at h
  obtain ⟨hd, he, w0, w2, hf, hz, hn⟩ := h
  have he := (rpEq_iff _ _).1 he
  unfold normR at he
  simp only [Rp.mk.injEq, true_and] at he
  obtain ⟨e2, e3, e5, e6, e7⟩ := he
  have hw : who = 0 ∨ who = 1 ∨ who = 2 := by omega
  refine ⟨hd, hw, hf, hz, ?_, ?_, ?_⟩
  · intro hr
    simp only [filtR, Bool.or_eq_true, Bool.and_eq_true, beq_iff_eq] at hr
    simp only
    by_cases ho : on = 2 ∨ on = 8
    · rw [if_pos ho] at e2; exact e2
    · omega
  · intro hr
    simp only at hr ⊢
    rw [hr] at e3
    simpa using e3
  · simp only [numsR] at hn
    have hd8 : d = 1 ∨ d = 2 ∨ d = 3 ∨ d = 4 ∨ d = 5 ∨ d = 6 ∨ d = 7 ∨ d = 8 := by
      rcases does_cases hd with ⟨_, hx⟩ | ⟨_, hx⟩ | ⟨_, hx⟩ | ⟨_, hx⟩ <;> omega
    unfold actOk
    rcases hd8 with rfl | rfl | rfl | rfl | rfl | rfl | rfl | rfl
    all_goals simp at e5 e6 e7 hn
    all_goals simp
    all_goals omega
theorem kind_about {on who d : Int} (h : doesR on d = true) : kindOf (aboutS on who d) = on ∧ plainC (aboutS on who d) = true := by
  rcases does_cases h with ⟨rfl, hx⟩ | ⟨rfl, hx⟩ | ⟨rfl, hx⟩ | ⟨rfl | rfl | rfl | rfl, hx⟩
  · unfold aboutS; rw [if_pos rfl]; split <;> exact ⟨by decide, by decide⟩
  · unfold aboutS; rw [if_neg (by decide), if_pos rfl]; split <;> exact ⟨by decide, by decide⟩
  all_goals exact ⟨by kernel_rfl, by kernel_rfl⟩
theorem whom_group (f : Flt) (hf : fltIs f = true) : whomOf (40 :: (textOf f ++ [41])) = some (0, f) := by
  unfold whomOf
  have h1 : Lib.hasPrefix (40 :: (textOf f ++ [41])) [40] = true := by unfold Lib.hasPrefix; simp [List.isPrefixOf]
  have h2 : Lib.trimPrefix (40 :: (textOf f ++ [41])) [40] = textOf f ++ [41] := by unfold Lib.trimPrefix; rw [if_pos h1]; simp
  rw [if_pos h1, h2, trim_snoc, parse_text hf]; rfl
theorem whom_who {who : Int} (h : who = 0 ∨ who = 1 ∨ who = 2) : whomOf (whoText who) = some (who, zeroF) ∧ plainC (whoText who) = true := by
  rcases h with rfl | rfl | rfl <;> exact ⟨by kernel_rfl, by decide⟩
theorem split_body {r : Rp} (h : rpIs r = true) : splitDep 32 (rpBody r) = aboutS r.on r.who r.d :: whomS r.on r.who r.f :: splitAux 32 0 [] (actS r.d r.n r.z r.c) := by
  obtain ⟨hd, hw, hf, hz, h1, h2, ha⟩ := rp_facts h
  unfold splitDep rpBody
  rw [sp_plain _ _ _ (kind_about hd).2, List.nil_append]
  congr 1
  unfold whomS
  split
  · exact sp_group _ _ (textOf_noBr _)
  · rw [sp_plain _ _ _ (whom_who hw).2, List.nil_append]
theorem whom_of {r : Rp} (h : rpIs r = true) : whomOf (whomS r.on r.who r.f) = some (r.who, r.f) := by
  obtain ⟨hd, hw, hf, hz, h1, h2, ha⟩ := rp_facts h
  unfold whomS
  cases hr : filtR r.on r.who with
  | true => rw [if_pos rfl, whom_group _ hf, h1 hr]
  | false => rw [if_neg (by decide), (whom_who hw).1, h2 hr]
theorem doing_words (on who : Int) (f : Flt) (d n z c : Int) (h : actOk d n z c) : ∃ a l, splitAux 32 0 [] (actS d n z c) = a :: l ∧ doingR on who f (a :: l) = ⟨on, who, f, d, n, z, c⟩ := by
  unfold actOk at h
  rw [act_words d n z c (by omega) (by omega) (by omega)]
  rcases h with ⟨rfl | rfl | rfl | rfl, rfl, rfl, rfl⟩ | ⟨rfl | rfl, hn, rfl, rfl⟩ | ⟨rfl, rfl, rfl | rfl | rfl, rfl⟩ | ⟨rfl, hn, rfl, hc⟩
  · exact ⟨_, _, rfl, by kernel_rfl⟩
  · exact ⟨_, _, rfl, by kernel_rfl⟩
  · exact ⟨_, _, rfl, by kernel_rfl⟩
  · exact ⟨_, _, rfl, by kernel_rfl⟩
  · obtain ⟨m, rfl⟩ : ∃ m : Nat, n = (m : Int) := ⟨n.toNat, by omega⟩
    refine ⟨_, _, rfl, ?_⟩
    have e : doOf reduceV = 2 := by decide
    unfold doingR
    simp [e, numOf_itoa m (by omega)]
  · obtain ⟨m, rfl⟩ : ∃ m : Nat, n = (m : Int) := ⟨n.toNat, by omega⟩
    refine ⟨_, _, rfl, ?_⟩
    have e : doOf addV = 4 := by decide
    unfold doingR
    simp [e, numOf_itoa m (by omega)]
  · exact ⟨_, _, rfl, by kernel_rfl⟩
  · exact ⟨_, _, rfl, by kernel_rfl⟩
  · exact ⟨_, _, rfl, by kernel_rfl⟩
  · obtain ⟨m, rfl⟩ : ∃ m : Nat, n = (m : Int) := ⟨n.toNat, by omega⟩
    refine ⟨_, _, rfl, ?_⟩
    have e : (((cntIx (cntText c)).getD 0 : Nat) : Int) = c := by rcases hc with rfl | rfl | rfl <;> decide
    unfold doingR
    simp [numOf_itoa m (by omega)]
    exact e
/-- What is guessed of a valid replacement effect's text is the effect. -/
theorem guessI_text {r : Rp} (h : rpIs r = true) : guessI (rpText r) = some r := by
  have ht : rpText r = rpBody r := if_pos h
  obtain ⟨hd, hw, hf, hz, h1, h2, ha⟩ := rp_facts h
  obtain ⟨a, l, e1, e2⟩ := doing_words r.on r.who r.f r.d r.n r.z r.c ha
  unfold guessI
  rw [ht, split_body h, e1]
  simp only
  rw [whom_of h, Option.map_some, (kind_about hd).1, e2]
theorem rpText_ne {r : Rp} (h : rpIs r = true) : rpText r ≠ [] := by
  have ht : rpText r = rpBody r := if_pos h
  rw [ht]; simp [rpBody]
theorem rpText_no {r : Rp} (h : rpIs r = false) : rpText r = [] := if_neg (by rw [h]; decide)
theorem rpParse_text {r : Rp} (h : rpIs r = true) : rpParse (rpText r) = some r := by
  unfold rpParse; rw [guessI_text h]; exact if_pos ⟨h, rfl⟩
theorem rpParse_back {s : Str} {r : Rp} (h : rpParse s = some r) : rpIs r = true ∧ rpText r = s := by
  unfold rpParse at h
  split at h
  · split at h
    · rename_i hh; injection h with h; subst h; exact hh
    · cases h
  · cases h
/-- A reading that gives only what has that text, and something where there is such a thing, is rpParse. -/
theorem rpParse_only {s : Str} {o : Option Rp} (h1 : ∀ t, o = some t → rpIs t = true ∧ rpText t = s) (h2 : o = none → ∀ t, rpIs t = true → rpText t = s → False) : o = rpParse s := by
  cases ho : o with
  | some t =>
    obtain ⟨a, b⟩ := h1 t ho
    rw [← b, rpParse_text a]
  | none =>
    cases hp : rpParse s with
    | none => rfl
    | some t => obtain ⟨a, b⟩ := rpParse_back hp; exact absurd b (fun b => h2 ho t a b)
end Go.Proofs.YtlgelkbniogekaaGreatDoor
namespace Go.Proofs.YtlgelkbniogekaaGreatDoor
set_option linter.all false
open Go.ChangeShapes Go.WideShapes Go.RowKit
abbrev TRp : Nat := 27
theorem rp_one (r : Rp) : r.cells.all (·.oneCell') = true := by simp [Rp.cells, Flt.cells, Value.oneCell']
theorem rp_info : (Tryz.prog.info? 27).map (·.size) = some 22 := by kernel_rfl
theorem rp_new : ∀ w : World, (zeroValue 27).run Tryz.prog w = .ok (.agg (Rp.cells zeroI)) w := fun _ => by kernel_rfl
theorem rp_build_ : ∀ w : World, (Instr.build 27 ([] : List (Nat × Value)).toArray).run Tryz.prog w = .ok (.agg (Rp.cells ⟨(zeroI).on, (zeroI).who, (zeroI).f, (zeroI).d, (zeroI).n, (zeroI).z, (zeroI).c⟩)) w := fun _ => by kernel_rfl
theorem rp_shape_ {ops : Array Oper} {rest : List Oper} {a : Act} {w : World} {Q : Exit → Act → World → Prop} {dst : Option Tmp} {ty : TypeId} {pos : String} {af : Array Edge} {gd : Option (Nat × Bool)} (h : wpList Tryz.prog ops Q ((⟨dst, .build 27 #[], ty, pos, af, gd⟩ : Oper) :: rest) a w) : wpList Tryz.prog ops Q ((⟨dst, .build 27 #[], ty, pos, af, gd⟩ : Oper) :: rest) a w := h
theorem rp_bld_ {ops : Array Oper} {rest : List Oper} {a : Act} {w : World} {Q : Exit → Act → World → Prop} {dst : Option Tmp} {ty : TypeId} {pos : String} {af : Array Edge} {gd : Option (Nat × Bool)} (hw : Region.wanted (⟨dst, .build 27 #[], ty, pos, af, gd⟩ : Oper) (yielded ops a.tmps) = true) (h : wpList Tryz.prog ops Q rest (a.put dst (.agg (Rp.cells ⟨(zeroI).on, (zeroI).who, (zeroI).f, (zeroI).d, (zeroI).n, (zeroI).z, (zeroI).c⟩))) w) : wpList Tryz.prog ops Q ((⟨dst, .build 27 #[], ty, pos, af, gd⟩ : Oper) :: rest) a w :=
  wpList_bld (l := []) rfl hw (ps := []) (by simp only [List.map_cons, List.map_nil]) (rp_build_) h
theorem rp_build_0_3 (x0 : Int) (x3 : Int) : ∀ w : World, (Instr.build 27 ([(0, .int .i64 x0), (3, .int .i64 x3)] : List (Nat × Value)).toArray).run Tryz.prog w = .ok (.agg (Rp.cells ⟨x0, (zeroI).who, (zeroI).f, x3, (zeroI).n, (zeroI).z, (zeroI).c⟩)) w := fun _ => by kernel_rfl
theorem rp_shape_0_3 {ops : Array Oper} {rest : List Oper} {a : Act} {w : World} {Q : Exit → Act → World → Prop} {dst : Option Tmp} {ty : TypeId} {pos : String} {af : Array Edge} {gd : Option (Nat × Bool)} {y0 y3 : Operand} (h : wpList Tryz.prog ops Q ((⟨dst, .build 27 #[(0, y0), (3, y3)], ty, pos, af, gd⟩ : Oper) :: rest) a w) : wpList Tryz.prog ops Q ((⟨dst, .build 27 #[(0, y0), (3, y3)], ty, pos, af, gd⟩ : Oper) :: rest) a w := h
theorem rp_bld_0_3 {x0 : Int} {x3 : Int} {y0 y3 : Operand} {ops : Array Oper} {rest : List Oper} {a : Act} {w : World} {Q : Exit → Act → World → Prop} {dst : Option Tmp} {ty : TypeId} {pos : String} {af : Array Edge} {gd : Option (Nat × Bool)} (hw : Region.wanted (⟨dst, .build 27 #[(0, y0), (3, y3)], ty, pos, af, gd⟩ : Oper) (yielded ops a.tmps) = true) (h0 : a.eval y0 = .int .i64 x0) (h3 : a.eval y3 = .int .i64 x3) (h : wpList Tryz.prog ops Q rest (a.put dst (.agg (Rp.cells ⟨x0, (zeroI).who, (zeroI).f, x3, (zeroI).n, (zeroI).z, (zeroI).c⟩))) w) : wpList Tryz.prog ops Q ((⟨dst, .build 27 #[(0, y0), (3, y3)], ty, pos, af, gd⟩ : Oper) :: rest) a w :=
  wpList_bld (l := [(0, y0), (3, y3)]) rfl hw (ps := [(0, .int .i64 x0), (3, .int .i64 x3)]) (by simp only [List.map_cons, List.map_nil, h0, h3]) (rp_build_0_3 x0 x3) h
theorem rp_build_0_1 (x0 : Int) (x1 : Int) : ∀ w : World, (Instr.build 27 ([(0, .int .i64 x0), (1, .int .i64 x1)] : List (Nat × Value)).toArray).run Tryz.prog w = .ok (.agg (Rp.cells ⟨x0, x1, (zeroI).f, (zeroI).d, (zeroI).n, (zeroI).z, (zeroI).c⟩)) w := fun _ => by kernel_rfl
theorem rp_shape_0_1 {ops : Array Oper} {rest : List Oper} {a : Act} {w : World} {Q : Exit → Act → World → Prop} {dst : Option Tmp} {ty : TypeId} {pos : String} {af : Array Edge} {gd : Option (Nat × Bool)} {y0 y1 : Operand} (h : wpList Tryz.prog ops Q ((⟨dst, .build 27 #[(0, y0), (1, y1)], ty, pos, af, gd⟩ : Oper) :: rest) a w) : wpList Tryz.prog ops Q ((⟨dst, .build 27 #[(0, y0), (1, y1)], ty, pos, af, gd⟩ : Oper) :: rest) a w := h
theorem rp_bld_0_1 {x0 : Int} {x1 : Int} {y0 y1 : Operand} {ops : Array Oper} {rest : List Oper} {a : Act} {w : World} {Q : Exit → Act → World → Prop} {dst : Option Tmp} {ty : TypeId} {pos : String} {af : Array Edge} {gd : Option (Nat × Bool)} (hw : Region.wanted (⟨dst, .build 27 #[(0, y0), (1, y1)], ty, pos, af, gd⟩ : Oper) (yielded ops a.tmps) = true) (h0 : a.eval y0 = .int .i64 x0) (h1 : a.eval y1 = .int .i64 x1) (h : wpList Tryz.prog ops Q rest (a.put dst (.agg (Rp.cells ⟨x0, x1, (zeroI).f, (zeroI).d, (zeroI).n, (zeroI).z, (zeroI).c⟩))) w) : wpList Tryz.prog ops Q ((⟨dst, .build 27 #[(0, y0), (1, y1)], ty, pos, af, gd⟩ : Oper) :: rest) a w :=
  wpList_bld (l := [(0, y0), (1, y1)]) rfl hw (ps := [(0, .int .i64 x0), (1, .int .i64 x1)]) (by simp only [List.map_cons, List.map_nil, h0, h1]) (rp_build_0_1 x0 x1) h
theorem rp_build_0_3_1 (x0 : Int) (x3 : Int) (x1 : Int) : ∀ w : World, (Instr.build 27 ([(0, .int .i64 x0), (3, .int .i64 x3), (1, .int .i64 x1)] : List (Nat × Value)).toArray).run Tryz.prog w = .ok (.agg (Rp.cells ⟨x0, x1, (zeroI).f, x3, (zeroI).n, (zeroI).z, (zeroI).c⟩)) w := fun _ => by kernel_rfl
theorem rp_shape_0_3_1 {ops : Array Oper} {rest : List Oper} {a : Act} {w : World} {Q : Exit → Act → World → Prop} {dst : Option Tmp} {ty : TypeId} {pos : String} {af : Array Edge} {gd : Option (Nat × Bool)} {y0 y3 y1 : Operand} (h : wpList Tryz.prog ops Q ((⟨dst, .build 27 #[(0, y0), (3, y3), (1, y1)], ty, pos, af, gd⟩ : Oper) :: rest) a w) : wpList Tryz.prog ops Q ((⟨dst, .build 27 #[(0, y0), (3, y3), (1, y1)], ty, pos, af, gd⟩ : Oper) :: rest) a w := h
theorem rp_bld_0_3_1 {x0 : Int} {x3 : Int} {x1 : Int} {y0 y3 y1 : Operand} {ops : Array Oper} {rest : List Oper} {a : Act} {w : World} {Q : Exit → Act → World → Prop} {dst : Option Tmp} {ty : TypeId} {pos : String} {af : Array Edge} {gd : Option (Nat × Bool)} (hw : Region.wanted (⟨dst, .build 27 #[(0, y0), (3, y3), (1, y1)], ty, pos, af, gd⟩ : Oper) (yielded ops a.tmps) = true) (h0 : a.eval y0 = .int .i64 x0) (h3 : a.eval y3 = .int .i64 x3) (h1 : a.eval y1 = .int .i64 x1) (h : wpList Tryz.prog ops Q rest (a.put dst (.agg (Rp.cells ⟨x0, x1, (zeroI).f, x3, (zeroI).n, (zeroI).z, (zeroI).c⟩))) w) : wpList Tryz.prog ops Q ((⟨dst, .build 27 #[(0, y0), (3, y3), (1, y1)], ty, pos, af, gd⟩ : Oper) :: rest) a w :=
  wpList_bld (l := [(0, y0), (3, y3), (1, y1)]) rfl hw (ps := [(0, .int .i64 x0), (3, .int .i64 x3), (1, .int .i64 x1)]) (by simp only [List.map_cons, List.map_nil, h0, h3, h1]) (rp_build_0_3_1 x0 x3 x1) h
theorem rp_build_0_1_3 (x0 : Int) (x1 : Int) (x3 : Int) : ∀ w : World, (Instr.build 27 ([(0, .int .i64 x0), (1, .int .i64 x1), (3, .int .i64 x3)] : List (Nat × Value)).toArray).run Tryz.prog w = .ok (.agg (Rp.cells ⟨x0, x1, (zeroI).f, x3, (zeroI).n, (zeroI).z, (zeroI).c⟩)) w := fun _ => by kernel_rfl
theorem rp_shape_0_1_3 {ops : Array Oper} {rest : List Oper} {a : Act} {w : World} {Q : Exit → Act → World → Prop} {dst : Option Tmp} {ty : TypeId} {pos : String} {af : Array Edge} {gd : Option (Nat × Bool)} {y0 y1 y3 : Operand} (h : wpList Tryz.prog ops Q ((⟨dst, .build 27 #[(0, y0), (1, y1), (3, y3)], ty, pos, af, gd⟩ : Oper) :: rest) a w) : wpList Tryz.prog ops Q ((⟨dst, .build 27 #[(0, y0), (1, y1), (3, y3)], ty, pos, af, gd⟩ : Oper) :: rest) a w := h
theorem rp_bld_0_1_3 {x0 : Int} {x1 : Int} {x3 : Int} {y0 y1 y3 : Operand} {ops : Array Oper} {rest : List Oper} {a : Act} {w : World} {Q : Exit → Act → World → Prop} {dst : Option Tmp} {ty : TypeId} {pos : String} {af : Array Edge} {gd : Option (Nat × Bool)} (hw : Region.wanted (⟨dst, .build 27 #[(0, y0), (1, y1), (3, y3)], ty, pos, af, gd⟩ : Oper) (yielded ops a.tmps) = true) (h0 : a.eval y0 = .int .i64 x0) (h1 : a.eval y1 = .int .i64 x1) (h3 : a.eval y3 = .int .i64 x3) (h : wpList Tryz.prog ops Q rest (a.put dst (.agg (Rp.cells ⟨x0, x1, (zeroI).f, x3, (zeroI).n, (zeroI).z, (zeroI).c⟩))) w) : wpList Tryz.prog ops Q ((⟨dst, .build 27 #[(0, y0), (1, y1), (3, y3)], ty, pos, af, gd⟩ : Oper) :: rest) a w :=
  wpList_bld (l := [(0, y0), (1, y1), (3, y3)]) rfl hw (ps := [(0, .int .i64 x0), (1, .int .i64 x1), (3, .int .i64 x3)]) (by simp only [List.map_cons, List.map_nil, h0, h1, h3]) (rp_build_0_1_3 x0 x1 x3) h
theorem rp_build_0_1_2_3 (x0 : Int) (x1 : Int) (x2 : Flt) (x3 : Int) : ∀ w : World, (Instr.build 27 ([(0, .int .i64 x0), (1, .int .i64 x1), (2, .agg (Flt.cells x2)), (3, .int .i64 x3)] : List (Nat × Value)).toArray).run Tryz.prog w = .ok (.agg (Rp.cells ⟨x0, x1, x2, x3, (zeroI).n, (zeroI).z, (zeroI).c⟩)) w := fun _ => by kernel_rfl
theorem rp_shape_0_1_2_3 {ops : Array Oper} {rest : List Oper} {a : Act} {w : World} {Q : Exit → Act → World → Prop} {dst : Option Tmp} {ty : TypeId} {pos : String} {af : Array Edge} {gd : Option (Nat × Bool)} {y0 y1 y2 y3 : Operand} (h : wpList Tryz.prog ops Q ((⟨dst, .build 27 #[(0, y0), (1, y1), (2, y2), (3, y3)], ty, pos, af, gd⟩ : Oper) :: rest) a w) : wpList Tryz.prog ops Q ((⟨dst, .build 27 #[(0, y0), (1, y1), (2, y2), (3, y3)], ty, pos, af, gd⟩ : Oper) :: rest) a w := h
theorem rp_bld_0_1_2_3 {x0 : Int} {x1 : Int} {x2 : Flt} {x3 : Int} {y0 y1 y2 y3 : Operand} {ops : Array Oper} {rest : List Oper} {a : Act} {w : World} {Q : Exit → Act → World → Prop} {dst : Option Tmp} {ty : TypeId} {pos : String} {af : Array Edge} {gd : Option (Nat × Bool)} (hw : Region.wanted (⟨dst, .build 27 #[(0, y0), (1, y1), (2, y2), (3, y3)], ty, pos, af, gd⟩ : Oper) (yielded ops a.tmps) = true) (h0 : a.eval y0 = .int .i64 x0) (h1 : a.eval y1 = .int .i64 x1) (h2 : a.eval y2 = .agg (Flt.cells x2)) (h3 : a.eval y3 = .int .i64 x3) (h : wpList Tryz.prog ops Q rest (a.put dst (.agg (Rp.cells ⟨x0, x1, x2, x3, (zeroI).n, (zeroI).z, (zeroI).c⟩))) w) : wpList Tryz.prog ops Q ((⟨dst, .build 27 #[(0, y0), (1, y1), (2, y2), (3, y3)], ty, pos, af, gd⟩ : Oper) :: rest) a w :=
  wpList_bld (l := [(0, y0), (1, y1), (2, y2), (3, y3)]) rfl hw (ps := [(0, .int .i64 x0), (1, .int .i64 x1), (2, .agg (Flt.cells x2)), (3, .int .i64 x3)]) (by simp only [List.map_cons, List.map_nil, h0, h1, h2, h3]) (rp_build_0_1_2_3 x0 x1 x2 x3) h
theorem rp_build_0_3_1_2 (x0 : Int) (x3 : Int) (x1 : Int) (x2 : Flt) : ∀ w : World, (Instr.build 27 ([(0, .int .i64 x0), (3, .int .i64 x3), (1, .int .i64 x1), (2, .agg (Flt.cells x2))] : List (Nat × Value)).toArray).run Tryz.prog w = .ok (.agg (Rp.cells ⟨x0, x1, x2, x3, (zeroI).n, (zeroI).z, (zeroI).c⟩)) w := fun _ => by kernel_rfl
theorem rp_shape_0_3_1_2 {ops : Array Oper} {rest : List Oper} {a : Act} {w : World} {Q : Exit → Act → World → Prop} {dst : Option Tmp} {ty : TypeId} {pos : String} {af : Array Edge} {gd : Option (Nat × Bool)} {y0 y3 y1 y2 : Operand} (h : wpList Tryz.prog ops Q ((⟨dst, .build 27 #[(0, y0), (3, y3), (1, y1), (2, y2)], ty, pos, af, gd⟩ : Oper) :: rest) a w) : wpList Tryz.prog ops Q ((⟨dst, .build 27 #[(0, y0), (3, y3), (1, y1), (2, y2)], ty, pos, af, gd⟩ : Oper) :: rest) a w := h
theorem rp_bld_0_3_1_2 {x0 : Int} {x3 : Int} {x1 : Int} {x2 : Flt} {y0 y3 y1 y2 : Operand} {ops : Array Oper} {rest : List Oper} {a : Act} {w : World} {Q : Exit → Act → World → Prop} {dst : Option Tmp} {ty : TypeId} {pos : String} {af : Array Edge} {gd : Option (Nat × Bool)} (hw : Region.wanted (⟨dst, .build 27 #[(0, y0), (3, y3), (1, y1), (2, y2)], ty, pos, af, gd⟩ : Oper) (yielded ops a.tmps) = true) (h0 : a.eval y0 = .int .i64 x0) (h3 : a.eval y3 = .int .i64 x3) (h1 : a.eval y1 = .int .i64 x1) (h2 : a.eval y2 = .agg (Flt.cells x2)) (h : wpList Tryz.prog ops Q rest (a.put dst (.agg (Rp.cells ⟨x0, x1, x2, x3, (zeroI).n, (zeroI).z, (zeroI).c⟩))) w) : wpList Tryz.prog ops Q ((⟨dst, .build 27 #[(0, y0), (3, y3), (1, y1), (2, y2)], ty, pos, af, gd⟩ : Oper) :: rest) a w :=
  wpList_bld (l := [(0, y0), (3, y3), (1, y1), (2, y2)]) rfl hw (ps := [(0, .int .i64 x0), (3, .int .i64 x3), (1, .int .i64 x1), (2, .agg (Flt.cells x2))]) (by simp only [List.map_cons, List.map_nil, h0, h3, h1, h2]) (rp_build_0_3_1_2 x0 x3 x1 x2) h
theorem rp_at0 (r : Rp) : (Rp.cells r)[0]? = some (.int .i64 r.on) := rfl
theorem rp_set0 (r : Rp) (x : Int) : (Rp.cells r).toList.take 0 ++ (Value.cells (.int .i64 x)).toList ++ (Rp.cells r).toList.drop (0 + (Value.cells (.int .i64 x)).size) = (Rp.cells ⟨x, r.who, r.f, r.d, r.n, r.z, r.c⟩).toList := rfl
theorem rp_at1 (r : Rp) : (Rp.cells r)[1]? = some (.int .i64 r.who) := rfl
theorem rp_set1 (r : Rp) (x : Int) : (Rp.cells r).toList.take 1 ++ (Value.cells (.int .i64 x)).toList ++ (Rp.cells r).toList.drop (1 + (Value.cells (.int .i64 x)).size) = (Rp.cells ⟨r.on, x, r.f, r.d, r.n, r.z, r.c⟩).toList := rfl
theorem rp_part2 (r : Rp) : ∀ j v, (Flt.cells r.f)[j]? = some v → (Rp.cells r)[2 + j]? = some v := by
  intro j v h
  have hj : j < 16 := by
    rcases Nat.lt_or_ge j 16 with h1 | h1
    · exact h1
    · rw [Array.getElem?_eq_none (by exact h1)] at h; cases h
  match j, hj, h with
  | 0, _, h => exact h
  | 1, _, h => exact h
  | 2, _, h => exact h
  | 3, _, h => exact h
  | 4, _, h => exact h
  | 5, _, h => exact h
  | 6, _, h => exact h
  | 7, _, h => exact h
  | 8, _, h => exact h
  | 9, _, h => exact h
  | 10, _, h => exact h
  | 11, _, h => exact h
  | 12, _, h => exact h
  | 13, _, h => exact h
  | 14, _, h => exact h
  | 15, _, h => exact h
theorem rp_set2 (r : Rp) (x : Flt) : (Rp.cells r).toList.take 2 ++ (Value.cells (.agg (Flt.cells x))).toList ++ (Rp.cells r).toList.drop (2 + (Value.cells (.agg (Flt.cells x))).size) = (Rp.cells ⟨r.on, r.who, x, r.d, r.n, r.z, r.c⟩).toList := rfl
theorem rp_at18 (r : Rp) : (Rp.cells r)[18]? = some (.int .i64 r.d) := rfl
theorem rp_set18 (r : Rp) (x : Int) : (Rp.cells r).toList.take 18 ++ (Value.cells (.int .i64 x)).toList ++ (Rp.cells r).toList.drop (18 + (Value.cells (.int .i64 x)).size) = (Rp.cells ⟨r.on, r.who, r.f, x, r.n, r.z, r.c⟩).toList := rfl
theorem rp_at19 (r : Rp) : (Rp.cells r)[19]? = some (.int .i64 r.n) := rfl
theorem rp_set19 (r : Rp) (x : Int) : (Rp.cells r).toList.take 19 ++ (Value.cells (.int .i64 x)).toList ++ (Rp.cells r).toList.drop (19 + (Value.cells (.int .i64 x)).size) = (Rp.cells ⟨r.on, r.who, r.f, r.d, x, r.z, r.c⟩).toList := rfl
theorem rp_at20 (r : Rp) : (Rp.cells r)[20]? = some (.int .i64 r.z) := rfl
theorem rp_set20 (r : Rp) (x : Int) : (Rp.cells r).toList.take 20 ++ (Value.cells (.int .i64 x)).toList ++ (Rp.cells r).toList.drop (20 + (Value.cells (.int .i64 x)).size) = (Rp.cells ⟨r.on, r.who, r.f, r.d, r.n, x, r.c⟩).toList := rfl
theorem rp_at21 (r : Rp) : (Rp.cells r)[21]? = some (.int .i64 r.c) := rfl
theorem rp_set21 (r : Rp) (x : Int) : (Rp.cells r).toList.take 21 ++ (Value.cells (.int .i64 x)).toList ++ (Rp.cells r).toList.drop (21 + (Value.cells (.int .i64 x)).size) = (Rp.cells ⟨r.on, r.who, r.f, r.d, r.n, r.z, x⟩).toList := rfl
theorem rp_put (r x : Rp) : (Rp.cells r).toList.take 0 ++ (Value.cells (.agg (Rp.cells x))).toList ++ (Rp.cells r).toList.drop (0 + (Value.cells (.agg (Rp.cells x))).size) = (Rp.cells x).toList := rfl
theorem rp_st0 {L : World → Prop} {w0 w : World} {rows : List Row} {ops : Array Oper} {rest : List Oper} {o : Oper} {a : Act} {Q : Exit → Act → World → Prop} {x y : Operand} (ho : o.op = .store 3 x y) (hS : St L w0 rows w) (hw : Region.wanted o (yielded ops a.tmps) = true) {g : Nat} (hx : a.eval x = .pointer (some ⟨g, 0, none⟩)) {v : Int} (hy : a.eval y = .int .i64 v) {r : Rp} {T' : Nat} {rows' : List Row} (hm : RowSet g (Rp.cells r) (Rp.cells ⟨v, r.who, r.f, r.d, r.n, r.z, r.c⟩) T' rows rows') (h : ∀ w', St L w0 rows' w' → wpList Tryz.prog ops Q rest (a.put o.dst undef) w') : wpList Tryz.prog ops Q (o :: rest) a w :=
  wpList_st ho hS hw hx hy hm (Nat.le_of_ble_eq_true rfl) (rp_set0 r v) infoInt1 (by simp [Value.cells, Value.oneCell']) h
theorem rp_st1 {L : World → Prop} {w0 w : World} {rows : List Row} {ops : Array Oper} {rest : List Oper} {o : Oper} {a : Act} {Q : Exit → Act → World → Prop} {x y : Operand} (ho : o.op = .store 3 x y) (hS : St L w0 rows w) (hw : Region.wanted o (yielded ops a.tmps) = true) {g : Nat} (hx : a.eval x = .pointer (some ⟨g, 1, none⟩)) {v : Int} (hy : a.eval y = .int .i64 v) {r : Rp} {T' : Nat} {rows' : List Row} (hm : RowSet g (Rp.cells r) (Rp.cells ⟨r.on, v, r.f, r.d, r.n, r.z, r.c⟩) T' rows rows') (h : ∀ w', St L w0 rows' w' → wpList Tryz.prog ops Q rest (a.put o.dst undef) w') : wpList Tryz.prog ops Q (o :: rest) a w :=
  wpList_st ho hS hw hx hy hm (Nat.le_of_ble_eq_true rfl) (rp_set1 r v) infoInt1 (by simp [Value.cells, Value.oneCell']) h
theorem rp_st2 {L : World → Prop} {w0 w : World} {rows : List Row} {ops : Array Oper} {rest : List Oper} {o : Oper} {a : Act} {Q : Exit → Act → World → Prop} {x y : Operand} (ho : o.op = .store 25 x y) (hS : St L w0 rows w) (hw : Region.wanted o (yielded ops a.tmps) = true) {g : Nat} (hx : a.eval x = .pointer (some ⟨g, 2, none⟩)) {v : Flt} (hy : a.eval y = .agg (Flt.cells v)) {r : Rp} {T' : Nat} {rows' : List Row} (hm : RowSet g (Rp.cells r) (Rp.cells ⟨r.on, r.who, v, r.d, r.n, r.z, r.c⟩) T' rows rows') (h : ∀ w', St L w0 rows' w' → wpList Tryz.prog ops Q rest (a.put o.dst undef) w') : wpList Tryz.prog ops Q (o :: rest) a w :=
  wpList_st ho hS hw hx hy hm (Nat.le_of_ble_eq_true rfl) (rp_set2 r v) flt_info (flt_one v) h
theorem rp_st18 {L : World → Prop} {w0 w : World} {rows : List Row} {ops : Array Oper} {rest : List Oper} {o : Oper} {a : Act} {Q : Exit → Act → World → Prop} {x y : Operand} (ho : o.op = .store 3 x y) (hS : St L w0 rows w) (hw : Region.wanted o (yielded ops a.tmps) = true) {g : Nat} (hx : a.eval x = .pointer (some ⟨g, 18, none⟩)) {v : Int} (hy : a.eval y = .int .i64 v) {r : Rp} {T' : Nat} {rows' : List Row} (hm : RowSet g (Rp.cells r) (Rp.cells ⟨r.on, r.who, r.f, v, r.n, r.z, r.c⟩) T' rows rows') (h : ∀ w', St L w0 rows' w' → wpList Tryz.prog ops Q rest (a.put o.dst undef) w') : wpList Tryz.prog ops Q (o :: rest) a w :=
  wpList_st ho hS hw hx hy hm (Nat.le_of_ble_eq_true rfl) (rp_set18 r v) infoInt1 (by simp [Value.cells, Value.oneCell']) h
theorem rp_st19 {L : World → Prop} {w0 w : World} {rows : List Row} {ops : Array Oper} {rest : List Oper} {o : Oper} {a : Act} {Q : Exit → Act → World → Prop} {x y : Operand} (ho : o.op = .store 3 x y) (hS : St L w0 rows w) (hw : Region.wanted o (yielded ops a.tmps) = true) {g : Nat} (hx : a.eval x = .pointer (some ⟨g, 19, none⟩)) {v : Int} (hy : a.eval y = .int .i64 v) {r : Rp} {T' : Nat} {rows' : List Row} (hm : RowSet g (Rp.cells r) (Rp.cells ⟨r.on, r.who, r.f, r.d, v, r.z, r.c⟩) T' rows rows') (h : ∀ w', St L w0 rows' w' → wpList Tryz.prog ops Q rest (a.put o.dst undef) w') : wpList Tryz.prog ops Q (o :: rest) a w :=
  wpList_st ho hS hw hx hy hm (Nat.le_of_ble_eq_true rfl) (rp_set19 r v) infoInt1 (by simp [Value.cells, Value.oneCell']) h
theorem rp_st20 {L : World → Prop} {w0 w : World} {rows : List Row} {ops : Array Oper} {rest : List Oper} {o : Oper} {a : Act} {Q : Exit → Act → World → Prop} {x y : Operand} (ho : o.op = .store 3 x y) (hS : St L w0 rows w) (hw : Region.wanted o (yielded ops a.tmps) = true) {g : Nat} (hx : a.eval x = .pointer (some ⟨g, 20, none⟩)) {v : Int} (hy : a.eval y = .int .i64 v) {r : Rp} {T' : Nat} {rows' : List Row} (hm : RowSet g (Rp.cells r) (Rp.cells ⟨r.on, r.who, r.f, r.d, r.n, v, r.c⟩) T' rows rows') (h : ∀ w', St L w0 rows' w' → wpList Tryz.prog ops Q rest (a.put o.dst undef) w') : wpList Tryz.prog ops Q (o :: rest) a w :=
  wpList_st ho hS hw hx hy hm (Nat.le_of_ble_eq_true rfl) (rp_set20 r v) infoInt1 (by simp [Value.cells, Value.oneCell']) h
theorem rp_st21 {L : World → Prop} {w0 w : World} {rows : List Row} {ops : Array Oper} {rest : List Oper} {o : Oper} {a : Act} {Q : Exit → Act → World → Prop} {x y : Operand} (ho : o.op = .store 3 x y) (hS : St L w0 rows w) (hw : Region.wanted o (yielded ops a.tmps) = true) {g : Nat} (hx : a.eval x = .pointer (some ⟨g, 21, none⟩)) {v : Int} (hy : a.eval y = .int .i64 v) {r : Rp} {T' : Nat} {rows' : List Row} (hm : RowSet g (Rp.cells r) (Rp.cells ⟨r.on, r.who, r.f, r.d, r.n, r.z, v⟩) T' rows rows') (h : ∀ w', St L w0 rows' w' → wpList Tryz.prog ops Q rest (a.put o.dst undef) w') : wpList Tryz.prog ops Q (o :: rest) a w :=
  wpList_st ho hS hw hx hy hm (Nat.le_of_ble_eq_true rfl) (rp_set21 r v) infoInt1 (by simp [Value.cells, Value.oneCell']) h
theorem rp_stw {L : World → Prop} {w0 w : World} {rows : List Row} {ops : Array Oper} {rest : List Oper} {o : Oper} {a : Act} {Q : Exit → Act → World → Prop} {x y : Operand} (ho : o.op = .store 27 x y) (hS : St L w0 rows w) (hw : Region.wanted o (yielded ops a.tmps) = true) {g : Nat} (hx : a.eval x = .pointer (some ⟨g, 0, none⟩)) {v : Rp} (hy : a.eval y = .agg (Rp.cells v)) {r : Rp} {T' : Nat} {rows' : List Row} (hm : RowSet g (Rp.cells r) (Rp.cells v) T' rows rows') (h : ∀ w', St L w0 rows' w' → wpList Tryz.prog ops Q rest (a.put o.dst undef) w') : wpList Tryz.prog ops Q (o :: rest) a w :=
  wpList_st ho hS hw hx hy hm (Nat.le_of_ble_eq_true rfl) (rp_put r v) rp_info (rp_one v) h
theorem rp_atd2 (r : Rp) : (Rp.cells r)[2]? = some (.int .i64 r.f.zone) := rfl
theorem rp_ldd2 {L : World → Prop} {w0 w : World} {rows : List Row} {ops : Array Oper} {rest : List Oper} {o : Oper} {a : Act} {Q : Exit → Act → World → Prop} {x : Operand} (ho : o.op = .load 3 x) (hS : St L w0 rows w) (hw : Region.wanted o (yielded ops a.tmps) = true) {g : Nat} (hx : a.eval x = .pointer (some ⟨g, 2, none⟩)) {r : Rp} {T' : Nat} (hm : RowAt g (Rp.cells r) T' rows) (h : wpList Tryz.prog ops Q rest (a.put o.dst (.int .i64 r.f.zone)) w) : wpList Tryz.prog ops Q (o :: rest) a w :=
  wpList_ld_cell ho hS hw hx hm scal3 (rp_atd2 r) h
theorem rp_atd3 (r : Rp) : (Rp.cells r)[3]? = some (.int .i64 r.f.who) := rfl
theorem rp_ldd3 {L : World → Prop} {w0 w : World} {rows : List Row} {ops : Array Oper} {rest : List Oper} {o : Oper} {a : Act} {Q : Exit → Act → World → Prop} {x : Operand} (ho : o.op = .load 3 x) (hS : St L w0 rows w) (hw : Region.wanted o (yielded ops a.tmps) = true) {g : Nat} (hx : a.eval x = .pointer (some ⟨g, 3, none⟩)) {r : Rp} {T' : Nat} (hm : RowAt g (Rp.cells r) T' rows) (h : wpList Tryz.prog ops Q rest (a.put o.dst (.int .i64 r.f.who)) w) : wpList Tryz.prog ops Q (o :: rest) a w :=
  wpList_ld_cell ho hS hw hx hm scal3 (rp_atd3 r) h
theorem rp_atd4 (r : Rp) : (Rp.cells r)[4]? = some (.int .i64 r.f.self) := rfl
theorem rp_ldd4 {L : World → Prop} {w0 w : World} {rows : List Row} {ops : Array Oper} {rest : List Oper} {o : Oper} {a : Act} {Q : Exit → Act → World → Prop} {x : Operand} (ho : o.op = .load 3 x) (hS : St L w0 rows w) (hw : Region.wanted o (yielded ops a.tmps) = true) {g : Nat} (hx : a.eval x = .pointer (some ⟨g, 4, none⟩)) {r : Rp} {T' : Nat} (hm : RowAt g (Rp.cells r) T' rows) (h : wpList Tryz.prog ops Q rest (a.put o.dst (.int .i64 r.f.self)) w) : wpList Tryz.prog ops Q (o :: rest) a w :=
  wpList_ld_cell ho hS hw hx hm scal3 (rp_atd4 r) h
theorem rp_atd5 (r : Rp) : (Rp.cells r)[5]? = some (.int .i64 r.f.types) := rfl
theorem rp_ldd5 {L : World → Prop} {w0 w : World} {rows : List Row} {ops : Array Oper} {rest : List Oper} {o : Oper} {a : Act} {Q : Exit → Act → World → Prop} {x : Operand} (ho : o.op = .load 3 x) (hS : St L w0 rows w) (hw : Region.wanted o (yielded ops a.tmps) = true) {g : Nat} (hx : a.eval x = .pointer (some ⟨g, 5, none⟩)) {r : Rp} {T' : Nat} (hm : RowAt g (Rp.cells r) T' rows) (h : wpList Tryz.prog ops Q rest (a.put o.dst (.int .i64 r.f.types)) w) : wpList Tryz.prog ops Q (o :: rest) a w :=
  wpList_ld_cell ho hS hw hx hm scal3 (rp_atd5 r) h
theorem rp_atd6 (r : Rp) : (Rp.cells r)[6]? = some (.int .i64 r.f.ntypes) := rfl
theorem rp_ldd6 {L : World → Prop} {w0 w : World} {rows : List Row} {ops : Array Oper} {rest : List Oper} {o : Oper} {a : Act} {Q : Exit → Act → World → Prop} {x : Operand} (ho : o.op = .load 3 x) (hS : St L w0 rows w) (hw : Region.wanted o (yielded ops a.tmps) = true) {g : Nat} (hx : a.eval x = .pointer (some ⟨g, 6, none⟩)) {r : Rp} {T' : Nat} (hm : RowAt g (Rp.cells r) T' rows) (h : wpList Tryz.prog ops Q rest (a.put o.dst (.int .i64 r.f.ntypes)) w) : wpList Tryz.prog ops Q (o :: rest) a w :=
  wpList_ld_cell ho hS hw hx hm scal3 (rp_atd6 r) h
theorem rp_atd7 (r : Rp) : (Rp.cells r)[7]? = some (.int .i64 r.f.colors) := rfl
theorem rp_ldd7 {L : World → Prop} {w0 w : World} {rows : List Row} {ops : Array Oper} {rest : List Oper} {o : Oper} {a : Act} {Q : Exit → Act → World → Prop} {x : Operand} (ho : o.op = .load 3 x) (hS : St L w0 rows w) (hw : Region.wanted o (yielded ops a.tmps) = true) {g : Nat} (hx : a.eval x = .pointer (some ⟨g, 7, none⟩)) {r : Rp} {T' : Nat} (hm : RowAt g (Rp.cells r) T' rows) (h : wpList Tryz.prog ops Q rest (a.put o.dst (.int .i64 r.f.colors)) w) : wpList Tryz.prog ops Q (o :: rest) a w :=
  wpList_ld_cell ho hS hw hx hm scal3 (rp_atd7 r) h
theorem rp_atd8 (r : Rp) : (Rp.cells r)[8]? = some (.int .i64 r.f.ncolors) := rfl
theorem rp_ldd8 {L : World → Prop} {w0 w : World} {rows : List Row} {ops : Array Oper} {rest : List Oper} {o : Oper} {a : Act} {Q : Exit → Act → World → Prop} {x : Operand} (ho : o.op = .load 3 x) (hS : St L w0 rows w) (hw : Region.wanted o (yielded ops a.tmps) = true) {g : Nat} (hx : a.eval x = .pointer (some ⟨g, 8, none⟩)) {r : Rp} {T' : Nat} (hm : RowAt g (Rp.cells r) T' rows) (h : wpList Tryz.prog ops Q rest (a.put o.dst (.int .i64 r.f.ncolors)) w) : wpList Tryz.prog ops Q (o :: rest) a w :=
  wpList_ld_cell ho hS hw hx hm scal3 (rp_atd8 r) h
theorem rp_atd9 (r : Rp) : (Rp.cells r)[9]? = some (.string r.f.sub) := rfl
theorem rp_ldd9 {L : World → Prop} {w0 w : World} {rows : List Row} {ops : Array Oper} {rest : List Oper} {o : Oper} {a : Act} {Q : Exit → Act → World → Prop} {x : Operand} (ho : o.op = .load 9 x) (hS : St L w0 rows w) (hw : Region.wanted o (yielded ops a.tmps) = true) {g : Nat} (hx : a.eval x = .pointer (some ⟨g, 9, none⟩)) {r : Rp} {T' : Nat} (hm : RowAt g (Rp.cells r) T' rows) (h : wpList Tryz.prog ops Q rest (a.put o.dst (.string r.f.sub)) w) : wpList Tryz.prog ops Q (o :: rest) a w :=
  wpList_ld_cell ho hS hw hx hm scal9 (rp_atd9 r) h
theorem rp_atd10 (r : Rp) : (Rp.cells r)[10]? = some (.int .i64 r.f.keys) := rfl
theorem rp_ldd10 {L : World → Prop} {w0 w : World} {rows : List Row} {ops : Array Oper} {rest : List Oper} {o : Oper} {a : Act} {Q : Exit → Act → World → Prop} {x : Operand} (ho : o.op = .load 3 x) (hS : St L w0 rows w) (hw : Region.wanted o (yielded ops a.tmps) = true) {g : Nat} (hx : a.eval x = .pointer (some ⟨g, 10, none⟩)) {r : Rp} {T' : Nat} (hm : RowAt g (Rp.cells r) T' rows) (h : wpList Tryz.prog ops Q rest (a.put o.dst (.int .i64 r.f.keys)) w) : wpList Tryz.prog ops Q (o :: rest) a w :=
  wpList_ld_cell ho hS hw hx hm scal3 (rp_atd10 r) h
theorem rp_atd11 (r : Rp) : (Rp.cells r)[11]? = some (.int .i64 r.f.tap) := rfl
theorem rp_ldd11 {L : World → Prop} {w0 w : World} {rows : List Row} {ops : Array Oper} {rest : List Oper} {o : Oper} {a : Act} {Q : Exit → Act → World → Prop} {x : Operand} (ho : o.op = .load 3 x) (hS : St L w0 rows w) (hw : Region.wanted o (yielded ops a.tmps) = true) {g : Nat} (hx : a.eval x = .pointer (some ⟨g, 11, none⟩)) {r : Rp} {T' : Nat} (hm : RowAt g (Rp.cells r) T' rows) (h : wpList Tryz.prog ops Q rest (a.put o.dst (.int .i64 r.f.tap)) w) : wpList Tryz.prog ops Q (o :: rest) a w :=
  wpList_ld_cell ho hS hw hx hm scal3 (rp_atd11 r) h
theorem rp_atd12 (r : Rp) : (Rp.cells r)[12]? = some (.int .i64 r.f.pk) := rfl
theorem rp_ldd12 {L : World → Prop} {w0 w : World} {rows : List Row} {ops : Array Oper} {rest : List Oper} {o : Oper} {a : Act} {Q : Exit → Act → World → Prop} {x : Operand} (ho : o.op = .load 3 x) (hS : St L w0 rows w) (hw : Region.wanted o (yielded ops a.tmps) = true) {g : Nat} (hx : a.eval x = .pointer (some ⟨g, 12, none⟩)) {r : Rp} {T' : Nat} (hm : RowAt g (Rp.cells r) T' rows) (h : wpList Tryz.prog ops Q rest (a.put o.dst (.int .i64 r.f.pk)) w) : wpList Tryz.prog ops Q (o :: rest) a w :=
  wpList_ld_cell ho hS hw hx hm scal3 (rp_atd12 r) h
theorem rp_atd13 (r : Rp) : (Rp.cells r)[13]? = some (.int .i64 r.f.pn) := rfl
theorem rp_ldd13 {L : World → Prop} {w0 w : World} {rows : List Row} {ops : Array Oper} {rest : List Oper} {o : Oper} {a : Act} {Q : Exit → Act → World → Prop} {x : Operand} (ho : o.op = .load 3 x) (hS : St L w0 rows w) (hw : Region.wanted o (yielded ops a.tmps) = true) {g : Nat} (hx : a.eval x = .pointer (some ⟨g, 13, none⟩)) {r : Rp} {T' : Nat} (hm : RowAt g (Rp.cells r) T' rows) (h : wpList Tryz.prog ops Q rest (a.put o.dst (.int .i64 r.f.pn)) w) : wpList Tryz.prog ops Q (o :: rest) a w :=
  wpList_ld_cell ho hS hw hx hm scal3 (rp_atd13 r) h
theorem rp_atd14 (r : Rp) : (Rp.cells r)[14]? = some (.int .i64 r.f.tk) := rfl
theorem rp_ldd14 {L : World → Prop} {w0 w : World} {rows : List Row} {ops : Array Oper} {rest : List Oper} {o : Oper} {a : Act} {Q : Exit → Act → World → Prop} {x : Operand} (ho : o.op = .load 3 x) (hS : St L w0 rows w) (hw : Region.wanted o (yielded ops a.tmps) = true) {g : Nat} (hx : a.eval x = .pointer (some ⟨g, 14, none⟩)) {r : Rp} {T' : Nat} (hm : RowAt g (Rp.cells r) T' rows) (h : wpList Tryz.prog ops Q rest (a.put o.dst (.int .i64 r.f.tk)) w) : wpList Tryz.prog ops Q (o :: rest) a w :=
  wpList_ld_cell ho hS hw hx hm scal3 (rp_atd14 r) h
theorem rp_atd15 (r : Rp) : (Rp.cells r)[15]? = some (.int .i64 r.f.tn) := rfl
theorem rp_ldd15 {L : World → Prop} {w0 w : World} {rows : List Row} {ops : Array Oper} {rest : List Oper} {o : Oper} {a : Act} {Q : Exit → Act → World → Prop} {x : Operand} (ho : o.op = .load 3 x) (hS : St L w0 rows w) (hw : Region.wanted o (yielded ops a.tmps) = true) {g : Nat} (hx : a.eval x = .pointer (some ⟨g, 15, none⟩)) {r : Rp} {T' : Nat} (hm : RowAt g (Rp.cells r) T' rows) (h : wpList Tryz.prog ops Q rest (a.put o.dst (.int .i64 r.f.tn)) w) : wpList Tryz.prog ops Q (o :: rest) a w :=
  wpList_ld_cell ho hS hw hx hm scal3 (rp_atd15 r) h
theorem rp_atd16 (r : Rp) : (Rp.cells r)[16]? = some (.int .i64 r.f.vk) := rfl
theorem rp_ldd16 {L : World → Prop} {w0 w : World} {rows : List Row} {ops : Array Oper} {rest : List Oper} {o : Oper} {a : Act} {Q : Exit → Act → World → Prop} {x : Operand} (ho : o.op = .load 3 x) (hS : St L w0 rows w) (hw : Region.wanted o (yielded ops a.tmps) = true) {g : Nat} (hx : a.eval x = .pointer (some ⟨g, 16, none⟩)) {r : Rp} {T' : Nat} (hm : RowAt g (Rp.cells r) T' rows) (h : wpList Tryz.prog ops Q rest (a.put o.dst (.int .i64 r.f.vk)) w) : wpList Tryz.prog ops Q (o :: rest) a w :=
  wpList_ld_cell ho hS hw hx hm scal3 (rp_atd16 r) h
theorem rp_atd17 (r : Rp) : (Rp.cells r)[17]? = some (.int .i64 r.f.vn) := rfl
theorem rp_ldd17 {L : World → Prop} {w0 w : World} {rows : List Row} {ops : Array Oper} {rest : List Oper} {o : Oper} {a : Act} {Q : Exit → Act → World → Prop} {x : Operand} (ho : o.op = .load 3 x) (hS : St L w0 rows w) (hw : Region.wanted o (yielded ops a.tmps) = true) {g : Nat} (hx : a.eval x = .pointer (some ⟨g, 17, none⟩)) {r : Rp} {T' : Nat} (hm : RowAt g (Rp.cells r) T' rows) (h : wpList Tryz.prog ops Q rest (a.put o.dst (.int .i64 r.f.vn)) w) : wpList Tryz.prog ops Q (o :: rest) a w :=
  wpList_ld_cell ho hS hw hx hm scal3 (rp_atd17 r) h
theorem rp_ld0 {L : World → Prop} {w0 w : World} {rows : List Row} {ops : Array Oper} {rest : List Oper} {o : Oper} {a : Act} {Q : Exit → Act → World → Prop} {x : Operand} (ho : o.op = .load 3 x) (hS : St L w0 rows w) (hw : Region.wanted o (yielded ops a.tmps) = true) {g : Nat} (hx : a.eval x = .pointer (some ⟨g, 0, none⟩)) {r : Rp} {T' : Nat} (hm : RowAt g (Rp.cells r) T' rows) (h : wpList Tryz.prog ops Q rest (a.put o.dst (.int .i64 r.on)) w) : wpList Tryz.prog ops Q (o :: rest) a w :=
  wpList_ld_cell ho hS hw hx hm scal3 (rp_at0 r) h
theorem rp_ld1 {L : World → Prop} {w0 w : World} {rows : List Row} {ops : Array Oper} {rest : List Oper} {o : Oper} {a : Act} {Q : Exit → Act → World → Prop} {x : Operand} (ho : o.op = .load 3 x) (hS : St L w0 rows w) (hw : Region.wanted o (yielded ops a.tmps) = true) {g : Nat} (hx : a.eval x = .pointer (some ⟨g, 1, none⟩)) {r : Rp} {T' : Nat} (hm : RowAt g (Rp.cells r) T' rows) (h : wpList Tryz.prog ops Q rest (a.put o.dst (.int .i64 r.who)) w) : wpList Tryz.prog ops Q (o :: rest) a w :=
  wpList_ld_cell ho hS hw hx hm scal3 (rp_at1 r) h
theorem rp_ld2 {L : World → Prop} {w0 w : World} {rows : List Row} {ops : Array Oper} {rest : List Oper} {o : Oper} {a : Act} {Q : Exit → Act → World → Prop} {x : Operand} (ho : o.op = .load 25 x) (hS : St L w0 rows w) (hw : Region.wanted o (yielded ops a.tmps) = true) {g : Nat} (hx : a.eval x = .pointer (some ⟨g, 2, none⟩)) {r : Rp} {T' : Nat} (hm : RowAt g (Rp.cells r) T' rows) (h : wpList Tryz.prog ops Q rest (a.put o.dst (.agg (Flt.cells r.f))) w) : wpList Tryz.prog ops Q (o :: rest) a w :=
  wpList_ld_part 25 ho hS hw 2 hx hm (rp_part2 r) Tryz.underlying25 rfl flt_info h
theorem rp_ld18 {L : World → Prop} {w0 w : World} {rows : List Row} {ops : Array Oper} {rest : List Oper} {o : Oper} {a : Act} {Q : Exit → Act → World → Prop} {x : Operand} (ho : o.op = .load 3 x) (hS : St L w0 rows w) (hw : Region.wanted o (yielded ops a.tmps) = true) {g : Nat} (hx : a.eval x = .pointer (some ⟨g, 18, none⟩)) {r : Rp} {T' : Nat} (hm : RowAt g (Rp.cells r) T' rows) (h : wpList Tryz.prog ops Q rest (a.put o.dst (.int .i64 r.d)) w) : wpList Tryz.prog ops Q (o :: rest) a w :=
  wpList_ld_cell ho hS hw hx hm scal3 (rp_at18 r) h
theorem rp_ld19 {L : World → Prop} {w0 w : World} {rows : List Row} {ops : Array Oper} {rest : List Oper} {o : Oper} {a : Act} {Q : Exit → Act → World → Prop} {x : Operand} (ho : o.op = .load 3 x) (hS : St L w0 rows w) (hw : Region.wanted o (yielded ops a.tmps) = true) {g : Nat} (hx : a.eval x = .pointer (some ⟨g, 19, none⟩)) {r : Rp} {T' : Nat} (hm : RowAt g (Rp.cells r) T' rows) (h : wpList Tryz.prog ops Q rest (a.put o.dst (.int .i64 r.n)) w) : wpList Tryz.prog ops Q (o :: rest) a w :=
  wpList_ld_cell ho hS hw hx hm scal3 (rp_at19 r) h
theorem rp_ld20 {L : World → Prop} {w0 w : World} {rows : List Row} {ops : Array Oper} {rest : List Oper} {o : Oper} {a : Act} {Q : Exit → Act → World → Prop} {x : Operand} (ho : o.op = .load 3 x) (hS : St L w0 rows w) (hw : Region.wanted o (yielded ops a.tmps) = true) {g : Nat} (hx : a.eval x = .pointer (some ⟨g, 20, none⟩)) {r : Rp} {T' : Nat} (hm : RowAt g (Rp.cells r) T' rows) (h : wpList Tryz.prog ops Q rest (a.put o.dst (.int .i64 r.z)) w) : wpList Tryz.prog ops Q (o :: rest) a w :=
  wpList_ld_cell ho hS hw hx hm scal3 (rp_at20 r) h
theorem rp_ld21 {L : World → Prop} {w0 w : World} {rows : List Row} {ops : Array Oper} {rest : List Oper} {o : Oper} {a : Act} {Q : Exit → Act → World → Prop} {x : Operand} (ho : o.op = .load 3 x) (hS : St L w0 rows w) (hw : Region.wanted o (yielded ops a.tmps) = true) {g : Nat} (hx : a.eval x = .pointer (some ⟨g, 21, none⟩)) {r : Rp} {T' : Nat} (hm : RowAt g (Rp.cells r) T' rows) (h : wpList Tryz.prog ops Q rest (a.put o.dst (.int .i64 r.c)) w) : wpList Tryz.prog ops Q (o :: rest) a w :=
  wpList_ld_cell ho hS hw hx hm scal3 (rp_at21 r) h
theorem rp_ldw {L : World → Prop} {w0 w : World} {rows : List Row} {ops : Array Oper} {rest : List Oper} {o : Oper} {a : Act} {Q : Exit → Act → World → Prop} {x : Operand} (ho : o.op = .load 27 x) (hS : St L w0 rows w) (hw : Region.wanted o (yielded ops a.tmps) = true) {g : Nat} (hx : a.eval x = .pointer (some ⟨g, 0, none⟩)) {r : Rp} {T' : Nat} (hm : RowAt g (Rp.cells r) T' rows) (h : wpList Tryz.prog ops Q rest (a.put o.dst (.agg (Rp.cells r))) w) : wpList Tryz.prog ops Q (o :: rest) a w :=
  wpList_ld_row 27 ho hS hw hx hm Tryz.underlying27 rfl rp_info h
theorem rp_tlw {L : World → Prop} {w0 : World} {rows : List Row} {ops : Array Oper} {o o' : Oper} {rest : List Oper} {a : Act} {Q : Exit → Act → World → Prop} {x : Operand} (ho : o.op = .load 27 x) (hw : Region.wanted o (yielded ops a.tmps) = true) {g : Nat} (hx : a.eval x = .pointer (some ⟨g, 0, none⟩)) {r : Rp} {T' : Nat} (hm : RowAt g (Rp.cells r) T' rows) (hq : ∀ c a w, Q (.panic c) (a.put o.dst (.agg (Rp.cells r))) w → Q (.panic c) a w) (h : RunT Tryz.prog ops Q (St L w0 rows) (o' :: rest) (a.put o.dst (.agg (Rp.cells r)))) : RunT Tryz.prog ops Q (St L w0 rows) (o :: o' :: rest) a :=
  runT_val hw hq (fun w hS => run_ld_part hS ho hx hm (fun j v hj => by simpa using hj) Tryz.underlying27 rfl rp_info) h
theorem rp_tl0 {L : World → Prop} {w0 : World} {rows : List Row} {ops : Array Oper} {o o' : Oper} {rest : List Oper} {a : Act} {Q : Exit → Act → World → Prop} {x : Operand} (ho : o.op = .load 3 x) (hw : Region.wanted o (yielded ops a.tmps) = true) {g : Nat} (hx : a.eval x = .pointer (some ⟨g, 0, none⟩)) {r : Rp} {T' : Nat} (hm : RowAt g (Rp.cells r) T' rows) (hq : ∀ c a w, Q (.panic c) (a.put o.dst (.int .i64 r.on)) w → Q (.panic c) a w) (h : RunT Tryz.prog ops Q (St L w0 rows) (o' :: rest) (a.put o.dst (.int .i64 r.on))) : RunT Tryz.prog ops Q (St L w0 rows) (o :: o' :: rest) a :=
  runT_val hw hq (fun w hS => run_ld_cell hS ho hx hm scal3 (rp_at0 r)) h
theorem rp_tl1 {L : World → Prop} {w0 : World} {rows : List Row} {ops : Array Oper} {o o' : Oper} {rest : List Oper} {a : Act} {Q : Exit → Act → World → Prop} {x : Operand} (ho : o.op = .load 3 x) (hw : Region.wanted o (yielded ops a.tmps) = true) {g : Nat} (hx : a.eval x = .pointer (some ⟨g, 1, none⟩)) {r : Rp} {T' : Nat} (hm : RowAt g (Rp.cells r) T' rows) (hq : ∀ c a w, Q (.panic c) (a.put o.dst (.int .i64 r.who)) w → Q (.panic c) a w) (h : RunT Tryz.prog ops Q (St L w0 rows) (o' :: rest) (a.put o.dst (.int .i64 r.who))) : RunT Tryz.prog ops Q (St L w0 rows) (o :: o' :: rest) a :=
  runT_val hw hq (fun w hS => run_ld_cell hS ho hx hm scal3 (rp_at1 r)) h
theorem rp_tl2 {L : World → Prop} {w0 : World} {rows : List Row} {ops : Array Oper} {o o' : Oper} {rest : List Oper} {a : Act} {Q : Exit → Act → World → Prop} {x : Operand} (ho : o.op = .load 25 x) (hw : Region.wanted o (yielded ops a.tmps) = true) {g : Nat} (hx : a.eval x = .pointer (some ⟨g, 2, none⟩)) {r : Rp} {T' : Nat} (hm : RowAt g (Rp.cells r) T' rows) (hq : ∀ c a w, Q (.panic c) (a.put o.dst (.agg (Flt.cells r.f))) w → Q (.panic c) a w) (h : RunT Tryz.prog ops Q (St L w0 rows) (o' :: rest) (a.put o.dst (.agg (Flt.cells r.f)))) : RunT Tryz.prog ops Q (St L w0 rows) (o :: o' :: rest) a :=
  runT_val hw hq (fun w hS => run_ld_part hS ho hx hm (rp_part2 r) Tryz.underlying25 rfl flt_info) h
theorem rp_tl18 {L : World → Prop} {w0 : World} {rows : List Row} {ops : Array Oper} {o o' : Oper} {rest : List Oper} {a : Act} {Q : Exit → Act → World → Prop} {x : Operand} (ho : o.op = .load 3 x) (hw : Region.wanted o (yielded ops a.tmps) = true) {g : Nat} (hx : a.eval x = .pointer (some ⟨g, 18, none⟩)) {r : Rp} {T' : Nat} (hm : RowAt g (Rp.cells r) T' rows) (hq : ∀ c a w, Q (.panic c) (a.put o.dst (.int .i64 r.d)) w → Q (.panic c) a w) (h : RunT Tryz.prog ops Q (St L w0 rows) (o' :: rest) (a.put o.dst (.int .i64 r.d))) : RunT Tryz.prog ops Q (St L w0 rows) (o :: o' :: rest) a :=
  runT_val hw hq (fun w hS => run_ld_cell hS ho hx hm scal3 (rp_at18 r)) h
theorem rp_tl19 {L : World → Prop} {w0 : World} {rows : List Row} {ops : Array Oper} {o o' : Oper} {rest : List Oper} {a : Act} {Q : Exit → Act → World → Prop} {x : Operand} (ho : o.op = .load 3 x) (hw : Region.wanted o (yielded ops a.tmps) = true) {g : Nat} (hx : a.eval x = .pointer (some ⟨g, 19, none⟩)) {r : Rp} {T' : Nat} (hm : RowAt g (Rp.cells r) T' rows) (hq : ∀ c a w, Q (.panic c) (a.put o.dst (.int .i64 r.n)) w → Q (.panic c) a w) (h : RunT Tryz.prog ops Q (St L w0 rows) (o' :: rest) (a.put o.dst (.int .i64 r.n))) : RunT Tryz.prog ops Q (St L w0 rows) (o :: o' :: rest) a :=
  runT_val hw hq (fun w hS => run_ld_cell hS ho hx hm scal3 (rp_at19 r)) h
theorem rp_tl20 {L : World → Prop} {w0 : World} {rows : List Row} {ops : Array Oper} {o o' : Oper} {rest : List Oper} {a : Act} {Q : Exit → Act → World → Prop} {x : Operand} (ho : o.op = .load 3 x) (hw : Region.wanted o (yielded ops a.tmps) = true) {g : Nat} (hx : a.eval x = .pointer (some ⟨g, 20, none⟩)) {r : Rp} {T' : Nat} (hm : RowAt g (Rp.cells r) T' rows) (hq : ∀ c a w, Q (.panic c) (a.put o.dst (.int .i64 r.z)) w → Q (.panic c) a w) (h : RunT Tryz.prog ops Q (St L w0 rows) (o' :: rest) (a.put o.dst (.int .i64 r.z))) : RunT Tryz.prog ops Q (St L w0 rows) (o :: o' :: rest) a :=
  runT_val hw hq (fun w hS => run_ld_cell hS ho hx hm scal3 (rp_at20 r)) h
theorem rp_tl21 {L : World → Prop} {w0 : World} {rows : List Row} {ops : Array Oper} {o o' : Oper} {rest : List Oper} {a : Act} {Q : Exit → Act → World → Prop} {x : Operand} (ho : o.op = .load 3 x) (hw : Region.wanted o (yielded ops a.tmps) = true) {g : Nat} (hx : a.eval x = .pointer (some ⟨g, 21, none⟩)) {r : Rp} {T' : Nat} (hm : RowAt g (Rp.cells r) T' rows) (hq : ∀ c a w, Q (.panic c) (a.put o.dst (.int .i64 r.c)) w → Q (.panic c) a w) (h : RunT Tryz.prog ops Q (St L w0 rows) (o' :: rest) (a.put o.dst (.int .i64 r.c))) : RunT Tryz.prog ops Q (St L w0 rows) (o :: o' :: rest) a :=
  runT_val hw hq (fun w hS => run_ld_cell hS ho hx hm scal3 (rp_at21 r)) h
theorem rp_rld2 {L : World → Prop} {w0 : World} {rows : List Row} {ops : Array Oper} {rest : List Oper} {o : Oper} {a : Act} {Q : Exit → Act → World → Prop} {x : Operand} (ho : o.op = .load 3 x) (hw : Region.wanted o (yielded ops a.tmps) = true) {g : Nat} (hx : a.eval x = .pointer (some ⟨g, 2, none⟩)) {r : Rp} {T' : Nat} (hm : RowAt g (Rp.cells r) T' rows) (hq : ∀ c a w, Q (.panic c) (a.put o.dst (.int .i64 r.f.zone)) w → Q (.panic c) a w) (h : RunS Tryz.prog ops Q (St L w0 rows) rest (a.put o.dst (.int .i64 r.f.zone))) : RunS Tryz.prog ops Q (St L w0 rows) (o :: rest) a :=
  runS_val hw hq (fun w hS => run_ld_cell hS ho hx hm scal3 (rp_atd2 r)) h
theorem rp_rld3 {L : World → Prop} {w0 : World} {rows : List Row} {ops : Array Oper} {rest : List Oper} {o : Oper} {a : Act} {Q : Exit → Act → World → Prop} {x : Operand} (ho : o.op = .load 3 x) (hw : Region.wanted o (yielded ops a.tmps) = true) {g : Nat} (hx : a.eval x = .pointer (some ⟨g, 3, none⟩)) {r : Rp} {T' : Nat} (hm : RowAt g (Rp.cells r) T' rows) (hq : ∀ c a w, Q (.panic c) (a.put o.dst (.int .i64 r.f.who)) w → Q (.panic c) a w) (h : RunS Tryz.prog ops Q (St L w0 rows) rest (a.put o.dst (.int .i64 r.f.who))) : RunS Tryz.prog ops Q (St L w0 rows) (o :: rest) a :=
  runS_val hw hq (fun w hS => run_ld_cell hS ho hx hm scal3 (rp_atd3 r)) h
theorem rp_rld4 {L : World → Prop} {w0 : World} {rows : List Row} {ops : Array Oper} {rest : List Oper} {o : Oper} {a : Act} {Q : Exit → Act → World → Prop} {x : Operand} (ho : o.op = .load 3 x) (hw : Region.wanted o (yielded ops a.tmps) = true) {g : Nat} (hx : a.eval x = .pointer (some ⟨g, 4, none⟩)) {r : Rp} {T' : Nat} (hm : RowAt g (Rp.cells r) T' rows) (hq : ∀ c a w, Q (.panic c) (a.put o.dst (.int .i64 r.f.self)) w → Q (.panic c) a w) (h : RunS Tryz.prog ops Q (St L w0 rows) rest (a.put o.dst (.int .i64 r.f.self))) : RunS Tryz.prog ops Q (St L w0 rows) (o :: rest) a :=
  runS_val hw hq (fun w hS => run_ld_cell hS ho hx hm scal3 (rp_atd4 r)) h
theorem rp_rld5 {L : World → Prop} {w0 : World} {rows : List Row} {ops : Array Oper} {rest : List Oper} {o : Oper} {a : Act} {Q : Exit → Act → World → Prop} {x : Operand} (ho : o.op = .load 3 x) (hw : Region.wanted o (yielded ops a.tmps) = true) {g : Nat} (hx : a.eval x = .pointer (some ⟨g, 5, none⟩)) {r : Rp} {T' : Nat} (hm : RowAt g (Rp.cells r) T' rows) (hq : ∀ c a w, Q (.panic c) (a.put o.dst (.int .i64 r.f.types)) w → Q (.panic c) a w) (h : RunS Tryz.prog ops Q (St L w0 rows) rest (a.put o.dst (.int .i64 r.f.types))) : RunS Tryz.prog ops Q (St L w0 rows) (o :: rest) a :=
  runS_val hw hq (fun w hS => run_ld_cell hS ho hx hm scal3 (rp_atd5 r)) h
theorem rp_rld6 {L : World → Prop} {w0 : World} {rows : List Row} {ops : Array Oper} {rest : List Oper} {o : Oper} {a : Act} {Q : Exit → Act → World → Prop} {x : Operand} (ho : o.op = .load 3 x) (hw : Region.wanted o (yielded ops a.tmps) = true) {g : Nat} (hx : a.eval x = .pointer (some ⟨g, 6, none⟩)) {r : Rp} {T' : Nat} (hm : RowAt g (Rp.cells r) T' rows) (hq : ∀ c a w, Q (.panic c) (a.put o.dst (.int .i64 r.f.ntypes)) w → Q (.panic c) a w) (h : RunS Tryz.prog ops Q (St L w0 rows) rest (a.put o.dst (.int .i64 r.f.ntypes))) : RunS Tryz.prog ops Q (St L w0 rows) (o :: rest) a :=
  runS_val hw hq (fun w hS => run_ld_cell hS ho hx hm scal3 (rp_atd6 r)) h
theorem rp_rld7 {L : World → Prop} {w0 : World} {rows : List Row} {ops : Array Oper} {rest : List Oper} {o : Oper} {a : Act} {Q : Exit → Act → World → Prop} {x : Operand} (ho : o.op = .load 3 x) (hw : Region.wanted o (yielded ops a.tmps) = true) {g : Nat} (hx : a.eval x = .pointer (some ⟨g, 7, none⟩)) {r : Rp} {T' : Nat} (hm : RowAt g (Rp.cells r) T' rows) (hq : ∀ c a w, Q (.panic c) (a.put o.dst (.int .i64 r.f.colors)) w → Q (.panic c) a w) (h : RunS Tryz.prog ops Q (St L w0 rows) rest (a.put o.dst (.int .i64 r.f.colors))) : RunS Tryz.prog ops Q (St L w0 rows) (o :: rest) a :=
  runS_val hw hq (fun w hS => run_ld_cell hS ho hx hm scal3 (rp_atd7 r)) h
theorem rp_rld8 {L : World → Prop} {w0 : World} {rows : List Row} {ops : Array Oper} {rest : List Oper} {o : Oper} {a : Act} {Q : Exit → Act → World → Prop} {x : Operand} (ho : o.op = .load 3 x) (hw : Region.wanted o (yielded ops a.tmps) = true) {g : Nat} (hx : a.eval x = .pointer (some ⟨g, 8, none⟩)) {r : Rp} {T' : Nat} (hm : RowAt g (Rp.cells r) T' rows) (hq : ∀ c a w, Q (.panic c) (a.put o.dst (.int .i64 r.f.ncolors)) w → Q (.panic c) a w) (h : RunS Tryz.prog ops Q (St L w0 rows) rest (a.put o.dst (.int .i64 r.f.ncolors))) : RunS Tryz.prog ops Q (St L w0 rows) (o :: rest) a :=
  runS_val hw hq (fun w hS => run_ld_cell hS ho hx hm scal3 (rp_atd8 r)) h
theorem rp_rld9 {L : World → Prop} {w0 : World} {rows : List Row} {ops : Array Oper} {rest : List Oper} {o : Oper} {a : Act} {Q : Exit → Act → World → Prop} {x : Operand} (ho : o.op = .load 9 x) (hw : Region.wanted o (yielded ops a.tmps) = true) {g : Nat} (hx : a.eval x = .pointer (some ⟨g, 9, none⟩)) {r : Rp} {T' : Nat} (hm : RowAt g (Rp.cells r) T' rows) (hq : ∀ c a w, Q (.panic c) (a.put o.dst (.string r.f.sub)) w → Q (.panic c) a w) (h : RunS Tryz.prog ops Q (St L w0 rows) rest (a.put o.dst (.string r.f.sub))) : RunS Tryz.prog ops Q (St L w0 rows) (o :: rest) a :=
  runS_val hw hq (fun w hS => run_ld_cell hS ho hx hm scal9 (rp_atd9 r)) h
theorem rp_rld10 {L : World → Prop} {w0 : World} {rows : List Row} {ops : Array Oper} {rest : List Oper} {o : Oper} {a : Act} {Q : Exit → Act → World → Prop} {x : Operand} (ho : o.op = .load 3 x) (hw : Region.wanted o (yielded ops a.tmps) = true) {g : Nat} (hx : a.eval x = .pointer (some ⟨g, 10, none⟩)) {r : Rp} {T' : Nat} (hm : RowAt g (Rp.cells r) T' rows) (hq : ∀ c a w, Q (.panic c) (a.put o.dst (.int .i64 r.f.keys)) w → Q (.panic c) a w) (h : RunS Tryz.prog ops Q (St L w0 rows) rest (a.put o.dst (.int .i64 r.f.keys))) : RunS Tryz.prog ops Q (St L w0 rows) (o :: rest) a :=
  runS_val hw hq (fun w hS => run_ld_cell hS ho hx hm scal3 (rp_atd10 r)) h
theorem rp_rld11 {L : World → Prop} {w0 : World} {rows : List Row} {ops : Array Oper} {rest : List Oper} {o : Oper} {a : Act} {Q : Exit → Act → World → Prop} {x : Operand} (ho : o.op = .load 3 x) (hw : Region.wanted o (yielded ops a.tmps) = true) {g : Nat} (hx : a.eval x = .pointer (some ⟨g, 11, none⟩)) {r : Rp} {T' : Nat} (hm : RowAt g (Rp.cells r) T' rows) (hq : ∀ c a w, Q (.panic c) (a.put o.dst (.int .i64 r.f.tap)) w → Q (.panic c) a w) (h : RunS Tryz.prog ops Q (St L w0 rows) rest (a.put o.dst (.int .i64 r.f.tap))) : RunS Tryz.prog ops Q (St L w0 rows) (o :: rest) a :=
  runS_val hw hq (fun w hS => run_ld_cell hS ho hx hm scal3 (rp_atd11 r)) h
theorem rp_rld12 {L : World → Prop} {w0 : World} {rows : List Row} {ops : Array Oper} {rest : List Oper} {o : Oper} {a : Act} {Q : Exit → Act → World → Prop} {x : Operand} (ho : o.op = .load 3 x) (hw : Region.wanted o (yielded ops a.tmps) = true) {g : Nat} (hx : a.eval x = .pointer (some ⟨g, 12, none⟩)) {r : Rp} {T' : Nat} (hm : RowAt g (Rp.cells r) T' rows) (hq : ∀ c a w, Q (.panic c) (a.put o.dst (.int .i64 r.f.pk)) w → Q (.panic c) a w) (h : RunS Tryz.prog ops Q (St L w0 rows) rest (a.put o.dst (.int .i64 r.f.pk))) : RunS Tryz.prog ops Q (St L w0 rows) (o :: rest) a :=
  runS_val hw hq (fun w hS => run_ld_cell hS ho hx hm scal3 (rp_atd12 r)) h
theorem rp_rld13 {L : World → Prop} {w0 : World} {rows : List Row} {ops : Array Oper} {rest : List Oper} {o : Oper} {a : Act} {Q : Exit → Act → World → Prop} {x : Operand} (ho : o.op = .load 3 x) (hw : Region.wanted o (yielded ops a.tmps) = true) {g : Nat} (hx : a.eval x = .pointer (some ⟨g, 13, none⟩)) {r : Rp} {T' : Nat} (hm : RowAt g (Rp.cells r) T' rows) (hq : ∀ c a w, Q (.panic c) (a.put o.dst (.int .i64 r.f.pn)) w → Q (.panic c) a w) (h : RunS Tryz.prog ops Q (St L w0 rows) rest (a.put o.dst (.int .i64 r.f.pn))) : RunS Tryz.prog ops Q (St L w0 rows) (o :: rest) a :=
  runS_val hw hq (fun w hS => run_ld_cell hS ho hx hm scal3 (rp_atd13 r)) h
theorem rp_rld14 {L : World → Prop} {w0 : World} {rows : List Row} {ops : Array Oper} {rest : List Oper} {o : Oper} {a : Act} {Q : Exit → Act → World → Prop} {x : Operand} (ho : o.op = .load 3 x) (hw : Region.wanted o (yielded ops a.tmps) = true) {g : Nat} (hx : a.eval x = .pointer (some ⟨g, 14, none⟩)) {r : Rp} {T' : Nat} (hm : RowAt g (Rp.cells r) T' rows) (hq : ∀ c a w, Q (.panic c) (a.put o.dst (.int .i64 r.f.tk)) w → Q (.panic c) a w) (h : RunS Tryz.prog ops Q (St L w0 rows) rest (a.put o.dst (.int .i64 r.f.tk))) : RunS Tryz.prog ops Q (St L w0 rows) (o :: rest) a :=
  runS_val hw hq (fun w hS => run_ld_cell hS ho hx hm scal3 (rp_atd14 r)) h
theorem rp_rld15 {L : World → Prop} {w0 : World} {rows : List Row} {ops : Array Oper} {rest : List Oper} {o : Oper} {a : Act} {Q : Exit → Act → World → Prop} {x : Operand} (ho : o.op = .load 3 x) (hw : Region.wanted o (yielded ops a.tmps) = true) {g : Nat} (hx : a.eval x = .pointer (some ⟨g, 15, none⟩)) {r : Rp} {T' : Nat} (hm : RowAt g (Rp.cells r) T' rows) (hq : ∀ c a w, Q (.panic c) (a.put o.dst (.int .i64 r.f.tn)) w → Q (.panic c) a w) (h : RunS Tryz.prog ops Q (St L w0 rows) rest (a.put o.dst (.int .i64 r.f.tn))) : RunS Tryz.prog ops Q (St L w0 rows) (o :: rest) a :=
  runS_val hw hq (fun w hS => run_ld_cell hS ho hx hm scal3 (rp_atd15 r)) h
theorem rp_rld16 {L : World → Prop} {w0 : World} {rows : List Row} {ops : Array Oper} {rest : List Oper} {o : Oper} {a : Act} {Q : Exit → Act → World → Prop} {x : Operand} (ho : o.op = .load 3 x) (hw : Region.wanted o (yielded ops a.tmps) = true) {g : Nat} (hx : a.eval x = .pointer (some ⟨g, 16, none⟩)) {r : Rp} {T' : Nat} (hm : RowAt g (Rp.cells r) T' rows) (hq : ∀ c a w, Q (.panic c) (a.put o.dst (.int .i64 r.f.vk)) w → Q (.panic c) a w) (h : RunS Tryz.prog ops Q (St L w0 rows) rest (a.put o.dst (.int .i64 r.f.vk))) : RunS Tryz.prog ops Q (St L w0 rows) (o :: rest) a :=
  runS_val hw hq (fun w hS => run_ld_cell hS ho hx hm scal3 (rp_atd16 r)) h
theorem rp_rld17 {L : World → Prop} {w0 : World} {rows : List Row} {ops : Array Oper} {rest : List Oper} {o : Oper} {a : Act} {Q : Exit → Act → World → Prop} {x : Operand} (ho : o.op = .load 3 x) (hw : Region.wanted o (yielded ops a.tmps) = true) {g : Nat} (hx : a.eval x = .pointer (some ⟨g, 17, none⟩)) {r : Rp} {T' : Nat} (hm : RowAt g (Rp.cells r) T' rows) (hq : ∀ c a w, Q (.panic c) (a.put o.dst (.int .i64 r.f.vn)) w → Q (.panic c) a w) (h : RunS Tryz.prog ops Q (St L w0 rows) rest (a.put o.dst (.int .i64 r.f.vn))) : RunS Tryz.prog ops Q (St L w0 rows) (o :: rest) a :=
  runS_val hw hq (fun w hS => run_ld_cell hS ho hx hm scal3 (rp_atd17 r)) h
theorem rp_rl0 {L : World → Prop} {w0 : World} {rows : List Row} {ops : Array Oper} {rest : List Oper} {o : Oper} {a : Act} {Q : Exit → Act → World → Prop} {x : Operand} (ho : o.op = .load 3 x) (hw : Region.wanted o (yielded ops a.tmps) = true) {g : Nat} (hx : a.eval x = .pointer (some ⟨g, 0, none⟩)) {r : Rp} {T' : Nat} (hm : RowAt g (Rp.cells r) T' rows) (hq : ∀ c a w, Q (.panic c) (a.put o.dst (.int .i64 r.on)) w → Q (.panic c) a w) (h : RunS Tryz.prog ops Q (St L w0 rows) rest (a.put o.dst (.int .i64 r.on))) : RunS Tryz.prog ops Q (St L w0 rows) (o :: rest) a :=
  runS_val hw hq (fun w hS => run_ld_cell hS ho hx hm scal3 (rp_at0 r)) h
theorem rp_rl1 {L : World → Prop} {w0 : World} {rows : List Row} {ops : Array Oper} {rest : List Oper} {o : Oper} {a : Act} {Q : Exit → Act → World → Prop} {x : Operand} (ho : o.op = .load 3 x) (hw : Region.wanted o (yielded ops a.tmps) = true) {g : Nat} (hx : a.eval x = .pointer (some ⟨g, 1, none⟩)) {r : Rp} {T' : Nat} (hm : RowAt g (Rp.cells r) T' rows) (hq : ∀ c a w, Q (.panic c) (a.put o.dst (.int .i64 r.who)) w → Q (.panic c) a w) (h : RunS Tryz.prog ops Q (St L w0 rows) rest (a.put o.dst (.int .i64 r.who))) : RunS Tryz.prog ops Q (St L w0 rows) (o :: rest) a :=
  runS_val hw hq (fun w hS => run_ld_cell hS ho hx hm scal3 (rp_at1 r)) h
theorem rp_rl2 {L : World → Prop} {w0 : World} {rows : List Row} {ops : Array Oper} {rest : List Oper} {o : Oper} {a : Act} {Q : Exit → Act → World → Prop} {x : Operand} (ho : o.op = .load 25 x) (hw : Region.wanted o (yielded ops a.tmps) = true) {g : Nat} (hx : a.eval x = .pointer (some ⟨g, 2, none⟩)) {r : Rp} {T' : Nat} (hm : RowAt g (Rp.cells r) T' rows) (hq : ∀ c a w, Q (.panic c) (a.put o.dst (.agg (Flt.cells r.f))) w → Q (.panic c) a w) (h : RunS Tryz.prog ops Q (St L w0 rows) rest (a.put o.dst (.agg (Flt.cells r.f)))) : RunS Tryz.prog ops Q (St L w0 rows) (o :: rest) a :=
  runS_val hw hq (fun w hS => run_ld_part hS ho hx hm (rp_part2 r) Tryz.underlying25 rfl flt_info) h
theorem rp_rl18 {L : World → Prop} {w0 : World} {rows : List Row} {ops : Array Oper} {rest : List Oper} {o : Oper} {a : Act} {Q : Exit → Act → World → Prop} {x : Operand} (ho : o.op = .load 3 x) (hw : Region.wanted o (yielded ops a.tmps) = true) {g : Nat} (hx : a.eval x = .pointer (some ⟨g, 18, none⟩)) {r : Rp} {T' : Nat} (hm : RowAt g (Rp.cells r) T' rows) (hq : ∀ c a w, Q (.panic c) (a.put o.dst (.int .i64 r.d)) w → Q (.panic c) a w) (h : RunS Tryz.prog ops Q (St L w0 rows) rest (a.put o.dst (.int .i64 r.d))) : RunS Tryz.prog ops Q (St L w0 rows) (o :: rest) a :=
  runS_val hw hq (fun w hS => run_ld_cell hS ho hx hm scal3 (rp_at18 r)) h
theorem rp_rl19 {L : World → Prop} {w0 : World} {rows : List Row} {ops : Array Oper} {rest : List Oper} {o : Oper} {a : Act} {Q : Exit → Act → World → Prop} {x : Operand} (ho : o.op = .load 3 x) (hw : Region.wanted o (yielded ops a.tmps) = true) {g : Nat} (hx : a.eval x = .pointer (some ⟨g, 19, none⟩)) {r : Rp} {T' : Nat} (hm : RowAt g (Rp.cells r) T' rows) (hq : ∀ c a w, Q (.panic c) (a.put o.dst (.int .i64 r.n)) w → Q (.panic c) a w) (h : RunS Tryz.prog ops Q (St L w0 rows) rest (a.put o.dst (.int .i64 r.n))) : RunS Tryz.prog ops Q (St L w0 rows) (o :: rest) a :=
  runS_val hw hq (fun w hS => run_ld_cell hS ho hx hm scal3 (rp_at19 r)) h
theorem rp_rl20 {L : World → Prop} {w0 : World} {rows : List Row} {ops : Array Oper} {rest : List Oper} {o : Oper} {a : Act} {Q : Exit → Act → World → Prop} {x : Operand} (ho : o.op = .load 3 x) (hw : Region.wanted o (yielded ops a.tmps) = true) {g : Nat} (hx : a.eval x = .pointer (some ⟨g, 20, none⟩)) {r : Rp} {T' : Nat} (hm : RowAt g (Rp.cells r) T' rows) (hq : ∀ c a w, Q (.panic c) (a.put o.dst (.int .i64 r.z)) w → Q (.panic c) a w) (h : RunS Tryz.prog ops Q (St L w0 rows) rest (a.put o.dst (.int .i64 r.z))) : RunS Tryz.prog ops Q (St L w0 rows) (o :: rest) a :=
  runS_val hw hq (fun w hS => run_ld_cell hS ho hx hm scal3 (rp_at20 r)) h
theorem rp_rl21 {L : World → Prop} {w0 : World} {rows : List Row} {ops : Array Oper} {rest : List Oper} {o : Oper} {a : Act} {Q : Exit → Act → World → Prop} {x : Operand} (ho : o.op = .load 3 x) (hw : Region.wanted o (yielded ops a.tmps) = true) {g : Nat} (hx : a.eval x = .pointer (some ⟨g, 21, none⟩)) {r : Rp} {T' : Nat} (hm : RowAt g (Rp.cells r) T' rows) (hq : ∀ c a w, Q (.panic c) (a.put o.dst (.int .i64 r.c)) w → Q (.panic c) a w) (h : RunS Tryz.prog ops Q (St L w0 rows) rest (a.put o.dst (.int .i64 r.c))) : RunS Tryz.prog ops Q (St L w0 rows) (o :: rest) a :=
  runS_val hw hq (fun w hS => run_ld_cell hS ho hx hm scal3 (rp_at21 r)) h
theorem rp_rlw {L : World → Prop} {w0 : World} {rows : List Row} {ops : Array Oper} {rest : List Oper} {o : Oper} {a : Act} {Q : Exit → Act → World → Prop} {x : Operand} (ho : o.op = .load 27 x) (hw : Region.wanted o (yielded ops a.tmps) = true) {g : Nat} (hx : a.eval x = .pointer (some ⟨g, 0, none⟩)) {r : Rp} {T' : Nat} (hm : RowAt g (Rp.cells r) T' rows) (hq : ∀ c a w, Q (.panic c) (a.put o.dst (.agg (Rp.cells r))) w → Q (.panic c) a w) (h : RunS Tryz.prog ops Q (St L w0 rows) rest (a.put o.dst (.agg (Rp.cells r)))) : RunS Tryz.prog ops Q (St L w0 rows) (o :: rest) a :=
  runS_val hw hq (fun w hS => run_ld_part hS ho hx hm (fun j v hj => by simpa using hj) Tryz.underlying27 rfl rp_info) h
theorem rp_res2 {L : World → Prop} {w0 w : World} {rows : List Row} {a : Act} (hS : St L w0 rows w) {fn : Func} {p q : Tmp} (hf : fn.results = #[.cell p 27, .tmp q]) {g : Nat} (hp : a.tmps.getD p undef = .pointer (some ⟨g, 0, none⟩)) {r : Rp} {T' : Nat} (hm : RowAt g (Rp.cells r) T' rows) {v : Value} (hq : a.tmps.getD q undef = v) (hdef : a.defers = []) {R : Ending → World → Prop} (hR : Below w0.heap.size w0 w → R (.returned (.tuple #[.agg (Rp.cells r), v])) w) : bodyPost Tryz.prog fn R .ret a w :=
  bodyPost_ret ((results_row_tmp hf a.tmps w g T' (Rp.cells r) (0, 0) _ hp (hS.row hm) Tryz.underlying27 rfl rp_info).trans (by rw [hq])) hdef (hR hS.below)
theorem rp_res {L : World → Prop} {w0 w : World} {rows : List Row} {a : Act} (hS : St L w0 rows w) {fn : Func} {p : Tmp} (hf : fn.results = #[.cell p 27]) {g : Nat} (hp : a.tmps.getD p undef = .pointer (some ⟨g, 0, none⟩)) {r : Rp} {T' : Nat} (hm : RowAt g (Rp.cells r) T' rows) (hdef : a.defers = []) {R : Ending → World → Prop} (hR : Below w0.heap.size w0 w → R (.returned (.agg (Rp.cells r))) w) : bodyPost Tryz.prog fn R .ret a w :=
  St.result hS hf hp hm Tryz.underlying27 rfl rp_info hdef hR
set_option maxRecDepth 100000 in
/-- The model's == of two replacement effects. -/
theorem eq_rp (r q : Rp) (w : World) : (binOp .eql 27 (.agg r.cells) (.agg q.cells)).run Tryz.prog w = .ok (.bool (rpEq r q)) w := by
  rw [run_eql_struct, run_equalIn_agg w 9999 27 _ _ (by kernel_rfl) (by kernel_rfl)]
  simp [rpEq, fltEq, Rp.cells, go_sem, Tryz.underlying27, Tryz.fieldsF, Tryz.stoodF, Tryz.underlying25, Tryz.underlying23, Tryz.underlying3, Tryz.underlying9]
  simp only [Bool.and_assoc]
  iterate 21 (refine ite_and_res (by simp) ?_)
  split
  · rename_i h; rw [h]; simp
  · rename_i h; rw [beq_eq_false_iff_ne.2 h]
theorem neq_rp (r q : Rp) (w : World) : (binOp .neq 27 (.agg r.cells) (.agg q.cells)).run Tryz.prog w = .ok (.bool (!rpEq r q)) w := by
  have h := eq_rp r q w
  rw [run_eql_struct] at h
  rw [run_neq_struct]
  generalize (Op.equalIn 10000 27 (.agg r.cells) (.agg q.cells)).run Tryz.prog w = x at *
  cases x <;> simp_all [Result.andThen]
end Go.Proofs.YtlgelkbniogekaaGreatDoor
