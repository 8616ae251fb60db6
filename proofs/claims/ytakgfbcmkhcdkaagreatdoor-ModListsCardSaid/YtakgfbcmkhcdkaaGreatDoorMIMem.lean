/- Plain words: replacement effects (chapter 19); Parse inverts Text. No program in sight. -/
import Derived.Test.YtakgfbcmkhcdkaaGreatDoorMCnt
namespace Go.Proofs.YtakgfbcmkhcdkaaGreatDoor
set_option linter.all false
open Go.ChangeShapes Go.WideShapes Go.RowKit
structure Rp where
  on : Int
  who : Int
  f : Flt
  d : Int
  n : Int
  z : Int
  c : Int
def Rp.cells (r : Rp) : Array Value := #[.int .i64 r.on, .int .i64 r.who, .int .i64 r.f.zone, .int .i64 r.f.who, .int .i64 r.f.self, .int .i64 r.f.types, .int .i64 r.f.ntypes, .int .i64 r.f.colors, .int .i64 r.f.ncolors, .string r.f.sub, .int .i64 r.f.keys, .int .i64 r.f.tap, .int .i64 r.f.pk, .int .i64 r.f.pn, .int .i64 r.f.tk, .int .i64 r.f.tn, .int .i64 r.f.vk, .int .i64 r.f.vn, .int .i64 r.d, .int .i64 r.n, .int .i64 r.z, .int .i64 r.c]
def zeroI : Rp := ⟨0, 0, zeroF, 0, 0, 0, 0⟩
def zonI : List Str := [[98, 97, 116, 116, 108, 101, 102, 105, 101, 108, 100], [104, 97, 110, 100], [108, 105, 98, 114, 97, 114, 121], [103, 114, 97, 118, 101, 121, 97, 114, 100], [101, 120, 105, 108, 101], [115, 116, 97, 99, 107]]
def preventV : Str := [112, 114, 101, 118, 101, 110, 116]
def reduceV : Str := [114, 101, 100, 117, 99, 101]
def doubleV : Str := [100, 111, 117, 98, 108, 101]
def addV : Str := [97, 100, 100]
def tappedV : Str := [116, 97, 112, 112, 101, 100]
def withV : Str := [119, 105, 116, 104]
def skipV : Str := [115, 107, 105, 112]
def hurtV : Str := [104, 117, 114, 116]
def damageV : Str := [100, 97, 109, 97, 103, 101]
def diesV : Str := [100, 105, 101, 115]
def entersV : Str := [101, 110, 116, 101, 114, 115]
def drawV : Str := [100, 114, 97, 119]
def gainV : Str := [103, 97, 105, 110]
def loseV : Str := [108, 111, 115, 101]
def createV : Str := [99, 114, 101, 97, 116, 101]
def putV : Str := [112, 117, 116]
def zoneName (z : Int) : Str := if z = 0 then wd zonI 0 else if z = 1 then wd zonI 1 else if z = 2 then wd zonI 2 else if z = 3 then wd zonI 3 else if z = 4 then wd zonI 4 else if z = 5 then wd zonI 5 else []
def doesR (on d : Int) : Bool :=
  if on = 1 then d == 1 || (d == 2 || (d == 3 || d == 4))
  else if on = 2 then d == 5 || (d == 6 || d == 7)
  else if on = 3 then d == 8 || d == 4
  else if on = 4 ∨ on = 5 ∨ on = 10 ∨ on = 8 then d == 8 || (d == 4 || d == 3)
  else false
def filtR (on who : Int) : Bool := on == 2 || (on == 8 || (on == 1 && who == 0))
def normR (r : Rp) : Rp := ⟨r.on, if r.on = 2 ∨ r.on = 8 then 0 else r.who, if filtR r.on r.who = true then r.f else zeroF, r.d, if r.d = 2 ∨ r.d = 4 ∨ r.d = 7 then r.n else 0, if r.d = 5 then r.z else 0, if r.d = 7 then r.c else 0⟩
def rpEq (a b : Rp) : Bool := a.on == b.on && (a.who == b.who && (fltEq a.f b.f && (a.d == b.d && (a.n == b.n && (a.z == b.z && a.c == b.c)))))
theorem rpEq_iff (a b : Rp) : rpEq a b = true ↔ a = b := by
  obtain ⟨a1, a2, a3, a4, a5, a6, a7⟩ := a
  obtain ⟨b1, b2, b3, b4, b5, b6, b7⟩ := b
  simp [rpEq, fltEq_iff]
theorem rpEq_refl (a : Rp) : rpEq a a = true := (rpEq_iff a a).2 rfl
def numsR (r : Rp) : Bool :=
  if r.d = 2 ∨ r.d = 4 then decide (1 ≤ r.n) && decide (r.n ≤ 99)
  else if r.d = 7 then decide (1 ≤ r.n) && (decide (r.n ≤ 99) && (r.c == 0 || (r.c == 1 || r.c == 2)))
  else if r.d = 5 then r.z == 1 || (r.z == 2 || r.z == 4)
  else true
/-- A replacement effect is valid. -/
def rpIs (r : Rp) : Bool := doesR r.on r.d && (rpEq r (normR r) && (decide (0 ≤ r.who) && (decide (r.who ≤ 2) && (fltIs r.f && (r.f.zone == 0 && numsR r)))))
def actS (d n z c : Int) : Str :=
  if d = 1 then preventV else if d = 2 then reduceV ++ 32 :: Lib.itoa n else if d = 3 then doubleV else if d = 4 then addV ++ 32 :: Lib.itoa n
  else if d = 5 then zoneName z else if d = 6 then tappedV else if d = 7 then withV ++ 32 :: (Lib.itoa n ++ 32 :: cntText c) else skipV
def aboutS (on who d : Int) : Str :=
  if on = 1 then (if who = 0 then damageV else hurtV) else if on = 2 then (if d = 5 then diesV else entersV) else if on = 3 then drawV else if on = 4 then gainV
  else if on = 5 then loseV else if on = 10 then createV else putV
def whomS (on who : Int) (f : Flt) : Str := if filtR on who = true then 40 :: (textOf f ++ [41]) else whoText who
def rpBody (r : Rp) : Str := aboutS r.on r.who r.d ++ 32 :: (whomS r.on r.who r.f ++ 32 :: actS r.d r.n r.z r.c)
/-- A replacement effect's text; empty if it is not valid. -/
def rpText (r : Rp) : Str := if rpIs r = true then rpBody r else []
def kindOf (w : Str) : Int :=
  if w = damageV ∨ w = hurtV then 1 else if w = diesV ∨ w = entersV then 2 else if w = drawV then 3 else if w = gainV then 4 else if w = loseV then 5
  else if w = createV then 10 else if w = putV then 8 else 0
def whomOf (w : Str) : Option (Int × Flt) := if Lib.hasPrefix w [40] = true then (parseS (Lib.trimSuffix (Lib.trimPrefix w [40]) [41])).map fun f => (0, f) else some (whoIx w, zeroF)
def zoneIx (w : Str) : Int := if w = wd zonI 5 then 5 else if w = wd zonI 4 then 4 else if w = wd zonI 3 then 3 else if w = wd zonI 2 then 2 else if w = wd zonI 1 then 1 else 0
def doOf (w : Str) : Int := if w = preventV then 1 else if w = reduceV then 2 else if w = doubleV then 3 else if w = addV then 4 else if w = tappedV then 6 else if w = skipV then 8 else 5
/-- The words of an action, taken in. -/
def doingR (on who : Int) (f : Flt) (l : List Str) : Rp :=
  if l.length = 3 ∧ l.headD [] = withV then ⟨on, who, f, 7, (numOf (l.getD 1 [])).getD 0, 0, (((cntIx (l.getD 2 [])).getD 0 : Nat) : Int)⟩
  else ⟨on, who, f, doOf (l.headD []), if l.length = 2 then (numOf (l.getD 1 [])).getD 0 else 0, if doOf (l.headD []) = 5 then zoneIx (l.headD []) else 0, 0⟩
def guessI (s : Str) : Option Rp := match splitDep 32 s with
  | a :: b :: c :: l => (whomOf b).map fun p => doingR (kindOf a) p.1 p.2 (c :: l)
  | _ => none
def rpParse (s : Str) : Option Rp := match guessI s with | some r => if rpIs r = true ∧ rpText r = s then some r else none | none => none
def plainC (l : Str) : Bool := l.all fun c => !(c.toNat == 32 || (c.toNat == 40 || (c.toNat == 41 || (c.toNat == 91 || c.toNat == 93))))
def noBr (l : Str) : Bool := l.all fun c => !(c.toNat == 40 || (c.toNat == 41 || (c.toNat == 91 || c.toNat == 93)))
theorem sp_plain : ∀ (l cur r : Str), plainC l = true → splitAux 32 0 cur (l ++ 32 :: r) = (cur ++ l) :: splitAux 32 0 [] r
  | [], cur, r, _ => by
    have e : deeperN 0 (32 : UInt8).toNat = 0 := by decide
    rw [List.nil_append, splitAux, if_pos ⟨by decide, rfl⟩, e, List.append_nil]
  | c :: l, cur, r, h => by
    simp only [plainC, List.all_cons, Bool.and_eq_true, Bool.not_eq_true', Bool.or_eq_false_iff, beq_eq_false_iff_ne] at h
    obtain ⟨⟨h1, h2, h3, h4, h5⟩, hl⟩ := h
    have e : deeperN 0 c.toNat = 0 := by unfold deeperN; rw [if_neg (by omega), if_neg (by omega)]
    rw [List.cons_append, splitAux, if_neg (fun x => h1 x.1), e, sp_plain l _ r (by simpa [plainC] using hl)]; simp
theorem sp_last : ∀ (l cur : Str), plainC l = true → splitAux 32 0 cur l = [cur ++ l]
  | [], cur, _ => by rw [splitAux, List.append_nil]
  | c :: l, cur, h => by
    simp only [plainC, List.all_cons, Bool.and_eq_true, Bool.not_eq_true', Bool.or_eq_false_iff, beq_eq_false_iff_ne] at h
    obtain ⟨⟨h1, h2, h3, h4, h5⟩, hl⟩ := h
    have e : deeperN 0 c.toNat = 0 := by unfold deeperN; rw [if_neg (by omega), if_neg (by omega)]
    rw [splitAux, if_neg (fun x => h1 x.1), e, sp_last l _ (by simpa [plainC] using hl)]; simp
theorem sp_in : ∀ (l cur r : Str), noBr l = true → splitAux 32 1 cur (l ++ 41 :: r) = splitAux 32 0 (cur ++ (l ++ [41])) r
  | [], cur, r, _ => by
    have e : deeperN 1 (41 : UInt8).toNat = 0 := by decide
    rw [List.nil_append, splitAux, if_neg (by decide), e, List.nil_append]
  | c :: l, cur, r, h => by
    simp only [noBr, List.all_cons, Bool.and_eq_true, Bool.not_eq_true', Bool.or_eq_false_iff, beq_eq_false_iff_ne] at h
    obtain ⟨⟨h2, h3, h4, h5⟩, hl⟩ := h
    have e : deeperN 1 c.toNat = 1 := by unfold deeperN; rw [if_neg (by omega), if_neg (by omega)]
    rw [List.cons_append, splitAux, if_neg (fun x => by cases x.2), e, sp_in l _ r (by simpa [noBr] using hl)]; simp
theorem sp_group (m r : Str) (h : noBr m = true) : splitAux 32 0 [] (40 :: (m ++ [41]) ++ 32 :: r) = (40 :: (m ++ [41])) :: splitAux 32 0 [] r := by
  have e : deeperN 0 (40 : UInt8).toNat = 1 := by decide
  have e2 : (40 :: (m ++ [41]) ++ 32 :: r : Str) = 40 :: (m ++ 41 :: 32 :: r) := by simp
  rw [e2, splitAux, if_neg (by decide), e, sp_in m _ _ h]
  have := sp_plain [] ([] ++ [40] ++ (m ++ [41])) r rfl
  simp at this ⊢
  exact this
theorem textOf_noBr (f : Flt) : noBr (textOf f) = true := by
  unfold noBr
  rw [List.all_eq_true]
  intro c hc
  have hall : ∀ k : Fin 256, okB (UInt8.ofNat k.val) = true ∨ UInt8.ofNat k.val = 32 → (!((UInt8.ofNat k.val).toNat == 40 || ((UInt8.ofNat k.val).toNat == 41 || ((UInt8.ofNat k.val).toNat == 91 || (UInt8.ofNat k.val).toNat == 93)))) = true := by decide +kernel
  have := hall ⟨c.toNat, c.toNat_lt⟩
  simp only [UInt8.ofNat_toNat] at this
  exact this (textOf_mem hc)
theorem itoa_plain (n : Nat) : plainC (Lib.itoa n) = true := by
  unfold plainC
  rw [List.all_eq_true]
  intro c hc
  have := itoa_mem hc
  simp; omega
/-- The words of an action's text. -/
theorem act_words (d n z c : Int) (hn : 0 ≤ n) (hz : z = 0 ∨ z = 1 ∨ z = 2 ∨ z = 4) (hc : c = 0 ∨ c = 1 ∨ c = 2) : splitAux 32 0 [] (actS d n z c) =
    if d = 1 then [preventV] else if d = 2 then [reduceV, Lib.itoa n] else if d = 3 then [doubleV] else if d = 4 then [addV, Lib.itoa n]
    else if d = 5 then [zoneName z] else if d = 6 then [tappedV] else if d = 7 then [withV, Lib.itoa n, cntText c] else [skipV] := by
  obtain ⟨m, rfl⟩ : ∃ m : Nat, n = (m : Int) := ⟨n.toNat, by omega⟩
  unfold actS
  repeat' split
  · exact sp_last _ _ (by decide)
  · rw [sp_plain _ _ _ (by decide), sp_last _ _ (itoa_plain m)]; rfl
  · exact sp_last _ _ (by decide)
  · rw [sp_plain _ _ _ (by decide), sp_last _ _ (itoa_plain m)]; rfl
  · rcases hz with rfl | rfl | rfl | rfl
    · exact sp_last (zoneName 0) [] (by decide)
    · exact sp_last (zoneName 1) [] (by decide)
    · exact sp_last (zoneName 2) [] (by decide)
    · exact sp_last (zoneName 4) [] (by decide)
  · exact sp_last _ _ (by decide)
  · rw [sp_plain _ _ _ (by decide), sp_plain _ _ _ (itoa_plain m), sp_last _ _ (by rcases hc with rfl | rfl | rfl <;> decide)]; rfl
  · exact sp_last _ _ (by decide)
theorem does_cases {on d : Int} (h : doesR on d = true) : (on = 1 ∧ (d = 1 ∨ d = 2 ∨ d = 3 ∨ d = 4)) ∨ (on = 2 ∧ (d = 5 ∨ d = 6 ∨ d = 7)) ∨ (on = 3 ∧ (d = 8 ∨ d = 4)) ∨ ((on = 4 ∨ on = 5 ∨ on = 10 ∨ on = 8) ∧ (d = 8 ∨ d = 4 ∨ d = 3)) := by
  unfold doesR at h
  split at h
  · simp only [Bool.or_eq_true, beq_iff_eq] at h; exact .inl ⟨by assumption, h⟩
  split at h
  · simp only [Bool.or_eq_true, beq_iff_eq] at h; exact .inr (.inl ⟨by assumption, h⟩)
  split at h
  · simp only [Bool.or_eq_true, beq_iff_eq] at h; exact .inr (.inr (.inl ⟨by assumption, h⟩))
  split at h
  · simp only [Bool.or_eq_true, beq_iff_eq] at h; exact .inr (.inr (.inr ⟨by assumption, h⟩))
  · cases h
def actOk (d n z c : Int) : Prop := ((d = 1 ∨ d = 3 ∨ d = 6 ∨ d = 8) ∧ n = 0 ∧ z = 0 ∧ c = 0) ∨ ((d = 2 ∨ d = 4) ∧ (1 ≤ n ∧ n ≤ 99) ∧ z = 0 ∧ c = 0) ∨ (d = 5 ∧ n = 0 ∧ (z = 1 ∨ z = 2 ∨ z = 4) ∧ c = 0) ∨ (d = 7 ∧ (1 ≤ n ∧ n ≤ 99) ∧ z = 0 ∧ (c = 0 ∨ c = 1 ∨ c = 2))
theorem rp_facts {r : Rp} (h : rpIs r = true) : doesR r.on r.d = true ∧ (r.who = 0 ∨ r.who = 1 ∨ r.who = 2) ∧ fltIs r.f = true ∧ r.f.zone = 0 ∧ (filtR r.on r.who = true → r.who = 0) ∧ (filtR r.on r.who = false → r.f = zeroF) ∧ actOk r.d r.n r.z r.c := by
  obtain ⟨on, who, f, d, n, z, c⟩ := r
  unfold rpIs at h
  simp only [Bool.and_eq_true, decide_eq_true_eq, beq_iff_eq] at h
  obtain ⟨hd, he, w0, w2, hf, hz, hn⟩ := h
  have he := (rpEq_iff _ _).1 he
  unfold normR at he
  simp only [Rp.mk.injEq, true_and] at he
  obtain ⟨e2, e3, e5, e6, e7⟩ := he
  have hw : who = 0 ∨ who = 1 ∨ who = 2 := by omega
  refine ⟨hd, hw, hf, hz, ?_, ?_, ?_⟩
  · intro hr
    simp only [filtR, Bool.or_eq_true, Bool.and_eq_true, beq_iff_eq] at hr
    simp only
    by_cases ho : on = 2 ∨ on = 8
    · rw [if_pos ho] at e2; exact e2
    · omega
  · intro hr
    simp only at hr ⊢
    rw [hr] at e3
    simpa using e3
  · simp only [numsR] at hn
    have hd8 : d = 1 ∨ d = 2 ∨ d = 3 ∨ d = 4 ∨ d = 5 ∨ d = 6 ∨ d = 7 ∨ d = 8 := by
      rcases does_cases hd with ⟨_, hx⟩ | ⟨_, hx⟩ | ⟨_, hx⟩ | ⟨_, hx⟩ <;> omega
    unfold actOk
    rcases hd8 with rfl | rfl | rfl | rfl | rfl | rfl | rfl | rfl
    all_goals simp at e5 e6 e7 hn
    all_goals simp
    all_goals omega
theorem kind_about {on who d : Int} (h : doesR on d = true) : kindOf (aboutS on who d) = on ∧ plainC (aboutS on who d) = true := by
  rcases does_cases h with ⟨rfl, hx⟩ | ⟨rfl, hx⟩ | ⟨rfl, hx⟩ | ⟨rfl | rfl | rfl | rfl, hx⟩
  · unfold aboutS; rw [if_pos rfl]; split <;> exact ⟨by decide, by decide⟩
  · unfold aboutS; rw [if_neg (by decide), if_pos rfl]; split <;> exact ⟨by decide, by decide⟩
  all_goals exact ⟨by kernel_rfl, by kernel_rfl⟩
theorem whom_group (f : Flt) (hf : fltIs f = true) : whomOf (40 :: (textOf f ++ [41])) = some (0, f) := by
  unfold whomOf
  have h1 : Lib.hasPrefix (40 :: (textOf f ++ [41])) [40] = true := by unfold Lib.hasPrefix; simp [List.isPrefixOf]
  have h2 : Lib.trimPrefix (40 :: (textOf f ++ [41])) [40] = textOf f ++ [41] := by unfold Lib.trimPrefix; rw [if_pos h1]; simp
  rw [if_pos h1, h2, trim_snoc, parse_text hf]; rfl
theorem whom_who {who : Int} (h : who = 0 ∨ who = 1 ∨ who = 2) : whomOf (whoText who) = some (who, zeroF) ∧ plainC (whoText who) = true := by
  rcases h with rfl | rfl | rfl <;> exact ⟨by kernel_rfl, by decide⟩
theorem split_body {r : Rp} (h : rpIs r = true) : splitDep 32 (rpBody r) = aboutS r.on r.who r.d :: whomS r.on r.who r.f :: splitAux 32 0 [] (actS r.d r.n r.z r.c) := by
  obtain ⟨hd, hw, hf, hz, h1, h2, ha⟩ := rp_facts h
  unfold splitDep rpBody
  rw [sp_plain _ _ _ (kind_about hd).2, List.nil_append]
  congr 1
  unfold whomS
  split
  · exact sp_group _ _ (textOf_noBr _)
  · rw [sp_plain _ _ _ (whom_who hw).2, List.nil_append]
theorem whom_of {r : Rp} (h : rpIs r = true) : whomOf (whomS r.on r.who r.f) = some (r.who, r.f) := by
  obtain ⟨hd, hw, hf, hz, h1, h2, ha⟩ := rp_facts h
  unfold whomS
  cases hr : filtR r.on r.who with
  | true => rw [if_pos rfl, whom_group _ hf, h1 hr]
  | false => rw [if_neg (by decide), (whom_who hw).1, h2 hr]
theorem doing_words (on who : Int) (f : Flt) (d n z c : Int) (h : actOk d n z c) : ∃ a l, splitAux 32 0 [] (actS d n z c) = a :: l ∧ doingR on who f (a :: l) = ⟨on, who, f, d, n, z, c⟩ := by
  unfold actOk at h
  rw [act_words d n z c (by omega) (by omega) (by omega)]
  rcases h with ⟨rfl | rfl | rfl | rfl, rfl, rfl, rfl⟩ | ⟨rfl | rfl, hn, rfl, rfl⟩ | ⟨rfl, rfl, rfl | rfl | rfl, rfl⟩ | ⟨rfl, hn, rfl, hc⟩
  · exact ⟨_, _, rfl, by kernel_rfl⟩
  · exact ⟨_, _, rfl, by kernel_rfl⟩
  · exact ⟨_, _, rfl, by kernel_rfl⟩
  · exact ⟨_, _, rfl, by kernel_rfl⟩
  · obtain ⟨m, rfl⟩ : ∃ m : Nat, n = (m : Int) := ⟨n.toNat, by omega⟩
    refine ⟨_, _, rfl, ?_⟩
    have e : doOf reduceV = 2 := by decide
    unfold doingR
    simp [e, numOf_itoa m (by omega)]
  · obtain ⟨m, rfl⟩ : ∃ m : Nat, n = (m : Int) := ⟨n.toNat, by omega⟩
    refine ⟨_, _, rfl, ?_⟩
    have e : doOf addV = 4 := by decide
    unfold doingR
    simp [e, numOf_itoa m (by omega)]
  · exact ⟨_, _, rfl, by kernel_rfl⟩
  · exact ⟨_, _, rfl, by kernel_rfl⟩
  · exact ⟨_, _, rfl, by kernel_rfl⟩
  · obtain ⟨m, rfl⟩ : ∃ m : Nat, n = (m : Int) := ⟨n.toNat, by omega⟩
    refine ⟨_, _, rfl, ?_⟩
    have e : (((cntIx (cntText c)).getD 0 : Nat) : Int) = c := by rcases hc with rfl | rfl | rfl <;> decide
    unfold doingR
    simp [numOf_itoa m (by omega)]
    exact e
/-- What is guessed of a valid replacement effect's text is the effect. -/
theorem guessI_text {r : Rp} (h : rpIs r = true) : guessI (rpText r) = some r := by
  have ht : rpText r = rpBody r := if_pos h
  obtain ⟨hd, hw, hf, hz, h1, h2, ha⟩ := rp_facts h
  obtain ⟨a, l, e1, e2⟩ := doing_words r.on r.who r.f r.d r.n r.z r.c ha
  unfold guessI
  rw [ht, split_body h, e1]
  simp only
  rw [whom_of h, Option.map_some, (kind_about hd).1, e2]
theorem rpText_ne {r : Rp} (h : rpIs r = true) : rpText r ≠ [] := by
  have ht : rpText r = rpBody r := if_pos h
  rw [ht]; simp [rpBody]
theorem rpText_no {r : Rp} (h : rpIs r = false) : rpText r = [] := if_neg (by rw [h]; decide)
theorem rpParse_text {r : Rp} (h : rpIs r = true) : rpParse (rpText r) = some r := by
  unfold rpParse; rw [guessI_text h]; exact if_pos ⟨h, rfl⟩
theorem rpParse_back {s : Str} {r : Rp} (h : rpParse s = some r) : rpIs r = true ∧ rpText r = s := by
  unfold rpParse at h
  split at h
  · split at h
    · rename_i hh; injection h with h; subst h; exact hh
    · cases h
  · cases h
/-- A reading that gives only what has that text, and something where there is such a thing, is rpParse. -/
theorem rpParse_only {s : Str} {o : Option Rp} (h1 : ∀ t, o = some t → rpIs t = true ∧ rpText t = s) (h2 : o = none → ∀ t, rpIs t = true → rpText t = s → False) : o = rpParse s := by
  cases ho : o with
  | some t =>
    obtain ⟨a, b⟩ := h1 t ho
    rw [← b, rpParse_text a]
  | none =>
    cases hp : rpParse s with
    | none => rfl
    | some t => obtain ⟨a, b⟩ := rpParse_back hp; exact absurd b (fun b => h2 ho t a b)
end Go.Proofs.YtakgfbcmkhcdkaaGreatDoor
