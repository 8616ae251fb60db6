/- Walks: the words of package line. Walks: package word. Walks: the library's functions in this program's words: strings.Split, Join, CutPrefix, IndexByte; strconv.Itoa, Atoi. Conditions: none. Walks: package num. Walks: lists of words of package line. Walks: package line: IsSub, TypesText, ParseTypes. Conditions: Laid. Walks: package color. Conditions: Laid. -/
import Derived.Test.YtakgfbcmkhcdkaaGreatDoorProg
import Derived.Test.YtakgfbcmkhcdkaaGreatDoorBase
import Derived.WalkKit
import Derived.WalkSpells
import Derived.Outline
import Derived.Lib.Hide
import Derived.Test.YtakgfbcmkhcdkaaGreatDoorShelf
import Derived.WalkLawsBesides
import Derived.Lib.ConvBytes
import Derived.ChangeAgain
import Derived.Lib.AppendIntMem
namespace Go.Proofs.YtakgfbcmkhcdkaaGreatDoor
set_option linter.all false
open Go.ChangeShapes Go.WideShapes Go.RowKit
def superW (i : Nat) : ByteArray := B (superT.getD i [])
def typeW (i : Nat) : ByteArray := B (typeT.getD i [])
theorem superWord_any (i : Nat) (hi : i < 2) (w : World) :
    Calls Tryz.prog 61 #[.int .i64 i] w fun e w' => e = .returned (.string (superW i)) ∧ w = w' := by
  have i0 : ∀ w, (Instr.index 135 (.agg #[.string ⟨#[98, 97, 115, 105, 99]⟩, .string ⟨#[117, 110, 105, 113, 117, 101]⟩]) (.int .i64 i)).run Tryz.prog w = .ok (.string (superW i)) w := by
    intro w; rcases i with _ | _ | i
    · kernel_rfl
    · kernel_rfl
    · omega
  go_enter Tryz.func61, Tryz.ntmps61
  go_wp2
  go_ret
  exact ⟨rfl, rfl⟩
theorem typeWord_any (i : Nat) (hi : i < 6) (w : World) :
    Calls Tryz.prog 62 #[.int .i64 i] w fun e w' => e = .returned (.string (typeW i)) ∧ w = w' := by
  have i0 : ∀ w, (Instr.index 136 (.agg #[.string ⟨#[99, 114, 101, 97, 116, 117, 114, 101]⟩, .string ⟨#[105, 110, 115, 116, 97, 110, 116]⟩, .string ⟨#[114, 105, 116, 117, 97, 108]⟩, .string ⟨#[114, 101, 108, 105, 99]⟩, .string ⟨#[99, 104, 97, 114, 109]⟩, .string ⟨#[108, 97, 110, 100]⟩]) (.int .i64 i)).run Tryz.prog w = .ok (.string (typeW i)) w := by
    intro w; rcases i with _ | _ | _ | _ | _ | _ | i
    · kernel_rfl
    · kernel_rfl
    · kernel_rfl
    · kernel_rfl
    · kernel_rfl
    · kernel_rfl
    · omega
  go_enter Tryz.func62, Tryz.ntmps62
  go_wp2
  go_ret
  exact ⟨rfl, rfl⟩
theorem bitSuper_any (s : ByteArray) (w : World) :
    Calls Tryz.prog 60 #[.string s, .int .i64 2, .func (.func 61) #[] #[]] w fun e w' => e = .returned (.int .i64 (bitFrom superT 0 (L s) : Nat)) ∧ w = w' := by
  go_enter Tryz.func60, Tryz.ntmps60
  go_wp2
  go_step3
  go_wp2
  go_step3
  go_wp2
  go_loop [9] (fun i => ∃ k : Nat, k ≤ 2 ∧ i = .int .i64 k ∧ Hid (bitFrom (superT.drop k) k (L s) = bitFrom superT 0 (L s))) (fun i => 2 - (intOf i).toNat)
  case atStart => exact ⟨0, by omega, rfl, rfl⟩
  case round =>
    obtain ⟨k, hk, rfl, hb⟩ := hrel
    by_cases hlt : k < 2
    · go_wp2_with (go_at_call 61; refine (superWord_any _ hlt _).mono ?_; rintro e w' ⟨rfl, rfl⟩)
      · rename_i ht
        have hb' : Hid (bitFrom (superT.drop (k + 1)) (k + 1) (L s) = bitFrom superT 0 (L s)) := by
          exact (bitFrom_miss (T := superT) (k := k) hlt (by simpa [superW, L_toList] using ht)).symm.trans hb.out
        go_round
        case rel => exact ⟨k + 1, by omega, by go_num, hb'⟩
        case measure => simp [intOf]; omega
      · rename_i ht
        rw [Exit.noGoto_ret]
        go_ret
        refine ⟨ret_int ?_, rfl⟩
        rw [wrap_pow (by omega), ← hb.out, bitFrom_hit (T := superT) (k := k) hlt (by simpa [superW, L_toList] using ht)]
    · go_wp2
      go_ret
      obtain rfl : k = 2 := by omega
      exact ⟨ret_int (by rw [← hb.out]; rfl), rfl⟩
theorem bitType_any (s : ByteArray) (w : World) :
    Calls Tryz.prog 60 #[.string s, .int .i64 6, .func (.func 62) #[] #[]] w fun e w' => e = .returned (.int .i64 (bitFrom typeT 0 (L s) : Nat)) ∧ w = w' := by
  go_enter Tryz.func60, Tryz.ntmps60
  go_wp2
  go_step3
  go_wp2
  go_step3
  go_wp2
  go_loop [9] (fun i => ∃ k : Nat, k ≤ 6 ∧ i = .int .i64 k ∧ Hid (bitFrom (typeT.drop k) k (L s) = bitFrom typeT 0 (L s))) (fun i => 6 - (intOf i).toNat)
  case atStart => exact ⟨0, by omega, rfl, rfl⟩
  case round =>
    obtain ⟨k, hk, rfl, hb⟩ := hrel
    by_cases hlt : k < 6
    · go_wp2_with (go_at_call 62; refine (typeWord_any _ hlt _).mono ?_; rintro e w' ⟨rfl, rfl⟩)
      · rename_i ht
        have hb' : Hid (bitFrom (typeT.drop (k + 1)) (k + 1) (L s) = bitFrom typeT 0 (L s)) := by
          exact (bitFrom_miss (T := typeT) (k := k) hlt (by simpa [typeW, L_toList] using ht)).symm.trans hb.out
        go_round
        case rel => exact ⟨k + 1, by omega, by go_num, hb'⟩
        case measure => simp [intOf]; omega
      · rename_i ht
        rw [Exit.noGoto_ret]
        go_ret
        refine ⟨ret_int ?_, rfl⟩
        rw [wrap_pow (by omega), ← hb.out, bitFrom_hit (T := typeT) (k := k) hlt (by simpa [typeW, L_toList] using ht)]
    · go_wp2
      go_ret
      obtain rfl : k = 6 := by omega
      exact ⟨ret_int (by rw [← hb.out]; rfl), rfl⟩
end Go.Proofs.YtakgfbcmkhcdkaaGreatDoor
namespace Go.Proofs.YtakgfbcmkhcdkaaGreatDoor
set_option linter.all false
open Go.ChangeShapes Go.WideShapes Go.RowKit
theorem contains_any (s sub : ByteArray) (w : World) (h : w.ShapedOpen Tryz.prog) (hs : s.size < 4294967281) (l : Str) (hsub : L sub = l) :
    Calls Tryz.prog 123 #[.string s, .string sub] w fun e w' => e = .returned (.bool (Lib.contains (L s) l)) ∧ w = w' :=
  (Tryz.strings_Contains_shaped s sub w h hs).mono fun _ _ h => ⟨hsub ▸ h.1, h.2.symm⟩
theorem nm_close (s : ByteArray) (h : nmHead (L s) = false) (q : ((((((s.size : Int) == 0) = false ∧ (s.size : Int) ≤ 32) ∧ (97 : Int) ≤ (byt (L s) 0 : Nat)) ∧ ((byt (L s) 0 : Nat) : Int) ≤ 122) ∧ (((byt (L s) (s.size - 1) : Nat) : Int) == 45) = false) ∧ Lib.contains (L s) [45, 45] = false) : False := by
  rw [nmHead, size_l, q.2] at h; have := q.1
  simp only [Bool.and_eq_false_iff, decide_eq_false_iff_not, Bool.not_eq_false', beq_iff_eq, Bool.not_false, Bool.true_eq_false, or_false] at h
  simp only [beq_eq_false_iff_ne, ne_eq] at this; omega
theorem nm_test {s : ByteArray} (h : nmHead (L s) = true) : Lib.contains (L s) [45, 45] = false ∧ (s.size : Int) ≤ 32 ∧ (97 : Int) ≤ (byt (L s) 0 : Nat) ∧ ((byt (L s) 0 : Nat) : Int) ≤ 122 ∧ (((byt (L s) (s.size - 1) : Nat) : Int) == 45) = false := by
  rw [nmHead, size_l] at h
  simp only [Bool.and_eq_true, decide_eq_true_eq, Bool.not_eq_true', beq_eq_false_iff_ne] at h ⊢
  exact ⟨h.2.2.2.2.2, by omega, by omega, by omega, by simp; omega⟩
set_option maxRecDepth 100000 in
theorem wordIs_no (s : ByteArray) (w : World) (hl : w.ShapedOpen Tryz.prog) (hn : nmHead (L s) = false) :
    Calls Tryz.prog 59 #[.string s] w fun e w' => e = .returned (.bool false) ∧ w = w' := by
  have HN := Lib.hid hn; clear hn
  rcases Nat.eq_zero_or_pos s.size with h0 | h0
  · obtain rfl : s = ByteArray.empty := ByteArray.size_eq_zero_iff.1 h0
    go_enter Tryz.func59, Tryz.ntmps59
    go_wp2
    go_ret
    exact ⟨rfl, rfl⟩
  have hg := get_l s
  go_enter Tryz.func59, Tryz.ntmps59
  go_wp2_with (go_at_call 123; refine (contains_any _ _ _ hl (by omega) [45, 45] rfl).mono ?_; rintro e w' ⟨rfl, rfl⟩)
  all_goals first
    | (go_ret; exact ⟨rfl, rfl⟩)
    | (exfalso; exact nm_close s HN.out (by assumption))
theorem bytesWorld_at (w : World) (e : TypeId) (s : ByteArray) (j : Nat) (hj : j < s.size) : (Lib.bytesWorld w e s).cell? ⟨w.heap.size, j, none⟩ = some (.int .u8 (byt (L s) j : Nat)) := Lib.bytesWorld_cell w e s j hj
theorem bytesWorld_below (w : World) (e : TypeId) (s : ByteArray) : Below w.heap.size w (Lib.bytesWorld w e s) :=
  ⟨rfl, rfl, rfl, by rw [Lib.bytesWorld_size]; omega, fun k hk => Lib.bytesWorld_at_old w e s k hk⟩
set_option maxRecDepth 100000 in
theorem wordIs_yes (s : ByteArray) (w : World) (hl : w.ShapedOpen Tryz.prog) (hn : nmHead (L s) = true) :
    Calls Tryz.prog 59 #[.string s] w fun e w' => e = .returned (.bool ((allOk (L s)))) ∧ Below w.heap.size w w' := by
  have hs : 0 < s.size := by rw [nmHead, size_l] at hn; simp at hn; omega
  have hne : ¬ s = ByteArray.empty := fun e => by subst e; simp at hs
  obtain ⟨hc, t1, t2, t3, t4⟩ := nm_test hn
  have e0 : ((s.size : Int) == 0) = false := by simp only [beq_eq_false_iff_ne, ne_eq]; omega
  have hc2 := fun wx => Lib.run_convert_string_bytes (P := Tryz.prog) wx 9 134 5 s Tryz.underlying9 Tryz.underlying134 Tryz.underlying5
  have hg := get_l s
  go_enter Tryz.func59, Tryz.ntmps59
  go_wp2_with (go_at_call 123; refine (contains_any _ _ _ hl (by omega) [45, 45] rfl).mono ?_; rintro e w' ⟨rfl, rfl⟩)
  all_goals try (exfalso; omega)
  have hb := bytesWorld_below w 5 s
  have hcell := fun j hj => bytesWorld_at w 5 s j hj
  clear hc2
  generalize grownCap w s.size 0 5 = cap
  generalize Lib.bytesWorld w 5 s = W at *
  go_loop [38] (fun i => ∃ k : Nat, k ≤ s.size ∧ i = .int .i64 k ∧ Hid (allOk ((L s).drop k) = allOk (L s))) (fun i => s.size - (intOf i).toNat)
  case atStart => exact ⟨0, by omega, rfl, rfl⟩
  case round =>
    obtain ⟨k, hk, rfl, hal⟩ := hrel
    by_cases hlt : k < s.size
    · have hck := hcell k hlt
      have hst := Lib.hid (allOk_step (l := L s) (k := k) (by rw [size_l]; exact hlt))
      cases hok : okb (byt (L s) k)
      · obtain ⟨x1, x2, x3⟩ := okb_no hok
        have hK := Lib.hid hok; clear hok
        go_wp2
        all_goals (go_ret; exact ⟨ret_bool (by rw [← hal.out, hst.out, hK.out]; rfl), hb⟩)
      · have hnext : Hid (allOk ((L s).drop (k + 1)) = allOk (L s)) := by
          have := hst.out; rw [hok, Bool.true_and] at this; exact this.symm.trans hal.out
        rcases okb_yes hok with ⟨x1, x2⟩ | ⟨x1, x2, x3⟩ | ⟨x1, x2, x3⟩
        all_goals
          clear hok
          go_wp2
          go_round
          case rel => exact ⟨k + 1, by omega, by go_num, hnext⟩
          case measure => simp [intOf]; omega
    · go_wp2
      go_ret
      obtain rfl : k = s.size := by omega
      exact ⟨ret_bool (by rw [← hal.out, ← size_l, List.drop_length]; rfl), hb⟩
/-- Is reports whether s is a name. -/
theorem wordIs_any (s : ByteArray) (w : World) (hl : w.ShapedOpen Tryz.prog) :
    Calls Tryz.prog 59 #[.string s] w fun e w' => e = .returned (.bool (isName (L s))) ∧ Below w.heap.size w w' := by
  unfold isName
  cases h : nmHead (L s)
  · exact (wordIs_no s w hl h).mono fun _ _ ⟨a, b⟩ => ⟨a, b ▸ Below.refl _ _⟩
  · exact (wordIs_yes s w hl h).mono fun _ _ ⟨a, b⟩ => ⟨a, b⟩
end Go.Proofs.YtakgfbcmkhcdkaaGreatDoor
namespace Go.Proofs.YtakgfbcmkhcdkaaGreatDoor
set_option linter.all false
open Go.ChangeShapes Go.WideShapes Go.RowKit
/-- The variable names of package color. -/
def colorRow : Array Value := #[.string ⟨#[97, 109, 98, 101, 114]⟩, .string ⟨#[99, 111, 98, 97, 108, 116]⟩, .string ⟨#[106, 101, 116]⟩, .string ⟨#[114, 117, 98, 121]⟩, .string ⟨#[101, 109, 101, 114, 97, 108, 100]⟩]
/-- What the call is given of the package-level variables. -/
structure Laid (w : World) : Prop where
  shaped : w.ShapedOpen Tryz.prog
  tab : Lib.TabIs Tryz.prog w "internal/strconv.uint64pow10" .u64 Lib.pow10Tab
  syn : ∃ te pe, w.cell? ⟨5, 0, none⟩ = some (.iface te pe)
  rng : ∃ te pe, w.cell? ⟨6, 0, none⟩ = some (.iface te pe)
  names : ∃ ty fr, w.heap[(0 : Nat)]? = some (.cells colorRow ty fr)
  size : (0 : Nat) < w.heap.size
/-- A slice that the call made, over texts. -/
def RetTexts (w : World) (l : List Str) (e : Ending) (w' : World) : Prop := ∃ A c, e = .returned (.slice A l.length c) ∧ Texts w' w.heap.size l (.slice A l.length c) ∧ Below w.heap.size w w'
theorem split_any (s : ByteArray) (c : UInt8) (w : World) (h : w.ShapedOpen Tryz.prog) (hs : s.size < 4294967281) :
    Calls Tryz.prog 134 #[.string s, .string ⟨#[c]⟩] w (RetTexts w (splitOn c (L s))) :=
  (Tryz.strings_Split_shaped s ⟨#[c]⟩ w h hs (Nat.le_refl 1)).mono fun e w' ⟨he, hw⟩ => by
    have hL := splitB_L c s
    have hlen : (Lib.splitB ⟨#[c]⟩ 0 (Lib.countB s ⟨#[c]⟩) s).length = Lib.countB s ⟨#[c]⟩ + 1 := Lib.splitB_all ⟨#[c]⟩ (Nat.le_refl 1) 0 _ s rfl
    have hl2 : (splitOn c (L s)).length = Lib.countB s ⟨#[c]⟩ + 1 := by rw [← hL, List.length_map, hlen]
    have hle := splitOn_len c (L s)
    rw [size_l] at hle
    rw [← hl2] at he
    refine ⟨_, _, he, ?_, hw ▸ (Below.refl _ _).alloc (Nat.le_refl _) _⟩
    subst hw
    refine ⟨by rw [strCells_length]; omega, .inr ⟨w.heap.size, _, _, rfl, Nat.le_refl _, heap_alloc_new w _, Nat.le_refl _, by unfold maxLen; omega, ?_, ?_⟩⟩
    · simp [hlen, hl2]
    · simp only [List.toList_toArray, Nat.mul_one]
      rw [List.take_of_length_le (by simp [hlen, hl2]), ← hL, strCells, List.map_map]
      rfl
theorem join_any (l : List Str) (A : Option Addr) (c base : Nat) (sep : ByteArray) (w : World) (h : Texts w base l (.slice A l.length c)) (hN : l.length ≤ 100000000) (sl : Str) (hs : L sep = sl) (hlen : (Lib.join l sl).length ≤ 140737488355328) :
    Calls Tryz.prog 71 #[.slice A l.length c, .string sep] w fun e w' => e = .returned (.string (B (Lib.join l sl))) ∧ Below w.heap.size w w' := by
  subst hs
  cases l with
  | nil => exact (Tryz.strings_Join_none A c sep w).mono fun e w' ⟨he, hw⟩ => ⟨he, hw ▸ Below.refl _ _⟩
  | cons x r =>
    obtain ⟨A', c', hv, hc⟩ := Texts.form h
    have hcc : c' = c := by injection hv with _ _ h3; exact h3.symm
    subst hcc
    obtain ⟨g, rfl, hb, hg, hcell⟩ := own_at h (k := 0) (by simp)
    have hm : ((x :: r).map B).map (·.data.toList) = x :: r := by rw [List.map_map]; exact List.map_id _
    have hcl : ∀ (j : Nat) y, ((x :: r).map B)[j]? = some y → w.cell? ⟨g, 0 + j, none⟩ = some (.string y) := by
      intro j y hj
      have hj' : j < (x :: r).length := by
        rcases Nat.lt_or_ge j (x :: r).length with h' | h'
        · exact h'
        · rw [List.getElem?_eq_none (by simpa using h')] at hj; cases hj
      rw [Nat.zero_add, hcell j hj', strCells_at hj']
      rw [List.getElem?_map, List.getElem?_eq_getElem hj'] at hj
      simpa using hj
    have hJ := Tryz.strings_Join g 0 c' ((x :: r).map B) sep w hcl hg (by simp at hN ⊢; omega) (by simpa using hc) (by rw [hm]; exact hlen)
    rw [hm, List.length_map] at hJ
    exact hJ
theorem cutPrefix_any (s p : ByteArray) (w : World) (pl : Str) (hp : L p = pl) :
    Calls Tryz.prog 136 #[.string s, .string p] w fun e w' => e = .returned (.tuple #[.string (B (Lib.trimPrefix (L s) pl)), .bool (Lib.hasPrefix (L s) pl)]) ∧ w = w' := by
  subst hp
  exact (Tryz.strings_CutPrefix s p w).mono fun _ _ h => ⟨h.1, h.2.symm⟩
theorem indexByte_any (s : ByteArray) (c : UInt8) (w : World) :
    Calls Tryz.prog 155 #[.string s, .int .u8 c.toNat] w fun e w' => e = .returned (.int .i64 (Lib.indexByte (L s) c)) ∧ w = w' :=
  (Tryz.strings_IndexByte s c.toNat w).mono fun _ _ h => ⟨by have := h.1; rwa [Int.toNat_natCast, show c.toNat.toUInt8 = c from by simp [Nat.toUInt8]] at this, h.2.symm⟩
theorem itoa_any (n : Int) (h0 : -9223372036854775808 ≤ n) (h1 : n ≤ 9223372036854775807) (w : World) (hl : Laid w) :
    Calls Tryz.prog 83 #[.int .i64 n] w fun e w' => e = .returned (.string (B (Lib.itoa n))) ∧ Below w.heap.size w w' :=
  (Tryz.strconv_Itoa n h0 h1 w hl.tab).mono fun e w' ⟨he, k, os, hw⟩ => ⟨he, by
    subst hw
    exact ⟨rfl, rfl, rfl, by simp [Sort.grow], fun i hi => by simp [Sort.grow, Array.getElem?_append, show i < w.heap.size from hi]⟩⟩
/-- strconv.Atoi: the number, or an error that is not nil. -/
theorem atoi_any (s : ByteArray) (w : World) (hl : Laid w) (hs : s.size < 4294967281) :
    Calls Tryz.prog 160 #[.string s] w fun e w' => Below w.heap.size w w' ∧ ((∃ v, Lib.atoiAll (L s) = .ok v ∧ e = .returned (.tuple #[.int .i64 v, .nilIface])) ∨ ((∀ v, Lib.atoiAll (L s) ≠ .ok v) ∧ ∃ v t p, e = .returned (.tuple #[.int .i64 v, .iface t p]))) := by
  cases h : Lib.atoiAll (L s) with
  | ok v => exact (Tryz.strconv_Atoi_ok s (by omega) v h w).mono fun e w' ⟨he, hw⟩ => ⟨by
      rcases hw with rfl | ⟨t, rfl⟩
      · exact Below.refl _ _
      · exact bytesWorld_below w _ t, .inl ⟨v, rfl, he⟩⟩
  | range => 
    obtain ⟨te, pe, hv⟩ := hl.rng
    exact (Tryz.strconv_Atoi_range s (by omega) h _ w hv (.inr ⟨te, pe, rfl⟩)).mono fun e w' ⟨N, he, _, _, hb⟩ => ⟨hb, .inr ⟨(fun v hv => by cases hv), _, _, _, he⟩⟩
  | _ =>
    obtain ⟨te, pe, hv⟩ := hl.syn
    exact (Any.strconv_Atoi_syntax Tryz.laysC172 s (by omega) h _ w hv (.inr ⟨te, pe, rfl⟩)).mono fun e w' ⟨N, he, _, _, hb⟩ => ⟨hb, .inr ⟨(fun v hv => by cases hv), _, _, _, he⟩⟩
end Go.Proofs.YtakgfbcmkhcdkaaGreatDoor
namespace Go.Proofs.YtakgfbcmkhcdkaaGreatDoor
set_option linter.all false
open Go.ChangeShapes Go.WideShapes Go.RowKit
theorem info_int : (Tryz.prog.info? 3).map (fun i => (i.zero, i.size, i.bytes)) = some (some (.int .i64 0), 1, 8) := by kernel_rfl
theorem info_str : (Tryz.prog.info? 9).map (fun i => (i.zero, i.size, i.bytes)) = some (some (.string ByteArray.empty), 1, 16) := by kernel_rfl
set_option maxRecDepth 100000 in
/-- Bits returns the indexes of the bits of a mask. -/
theorem bits_any (m : Nat) (w : World) (hm : m < 2 ^ 31) :
    Calls Tryz.prog 75 #[.int .i64 m] w fun e w' => ∃ v, e = .returned v ∧ w'.ownsRow w.heap.size 3 1 v (bitsUpto m 31).length (intCells (bitsUpto m 31)) ∧ Below w.heap.size w w' := by
  obtain ⟨i0, hi, hz0, hz1, hz2⟩ := info_parts info_int
  go_enter Tryz.func75, Tryz.ntmps75
  go_wp2
  go_loopw [3, 8] (fun v i wr => ∃ k : Nat, k ≤ 31 ∧ i = .int .i64 k ∧ wr.ownsRow w.heap.size 3 1 v (bitsUpto m k).length (intCells (bitsUpto m k)) ∧ Below w.heap.size w wr) (fun _ i _ => 31 - (intOf i).toNat)
  case atStart => exact ⟨0, by omega, rfl, World.ownsRow_nil _ _ _ _, Below.refl _ _⟩
  case round =>
    obtain ⟨k, hk, rfl, hown, hb⟩ := hrel
    have hle := bitsUpto_le m k
    have hsz := hb.size
    by_cases hlt : k < 31
    · cases hbit : m.testBit k
      · have ht : (bits .and .i64 ((m : Int) / 2 ^ k) 1 == 1) = false := (bit_test m k hm).trans hbit
        have HX := Lib.hid (bitsUpto_no hbit); clear hbit
        go_wp2
        go_roundw
        case rel => exact ⟨k + 1, by omega, by go_num, by rw [HX.out]; exact hown, hb⟩
        case measure => simp [intOf]; omega
      · have ht : (bits .and .i64 ((m : Int) / 2 ^ k) 1 == 1) = true := (bit_test m k hm).trans hbit
        have HX := Lib.hid (bitsUpto_yes hbit); clear hbit
        have hm1 : (bitsUpto m k).length + 1 ≤ maxLen := by unfold maxLen; omega
        have hm2 : ((bitsUpto m k).length + 1) * 8 ≤ 140737488355328 := by omega
        go_wp2_with (at_builtin; refine wpList_append_own _ rfl (.tmp 16) (.tmp 18) 98 rfl w.heap.size 3 i0 (.int .i64 0) 1 8 Tryz.underlying98 hi hz0 hz1 hz2 rfl (by decide) _ _ _ rfl (hown.alloc _) ⟨_, 0, none⟩ 1 1 [.int .i64 k] rfl rfl (cell_one_new _ _ _) ?c2 hm1 hm2 ?c5 ?_)
        case c2 => intro u hu; simp at hu; subst hu; rfl
        case c5 => simp; omega
        intro v' w1 hown1 hgrow1 _
        have hlen : (bitsUpto m k).length + 1 = (bitsUpto m (k + 1)).length := by rw [HX.out]; simp
        rw [intCells_snoc, ← HX.out, hlen] at hown1
        have hb1 : Below w.heap.size w w1 := (hb.alloc (by omega) _).grown hgrow1 (by simp; omega) (fun g hg => (hown.lt g hg).1)
        clear hm1 hm2 hlen ht hgrow1
        go_wp2
        go_roundw
        case rel => exact ⟨k + 1, by omega, by go_num, hown1, hb1⟩
        case measure => simp [intOf]; omega
    · go_wp2
      go_ret
      obtain rfl : k = 31 := by omega
      exact ⟨_, rfl, hown, hb⟩
end Go.Proofs.YtakgfbcmkhcdkaaGreatDoor
namespace Go.Proofs.YtakgfbcmkhcdkaaGreatDoor
set_option linter.all false
open Go.ChangeShapes Go.WideShapes Go.RowKit
theorem bits_s (m : Nat) (w : World) (hm : m < 2 ^ 31) :
    Calls Tryz.prog 75 #[.int .i64 m] w fun e w' => ∃ A c, e = .returned (.slice A (bitsUpto m 31).length c) ∧ (bitsUpto m 31).length ≤ c ∧ Nums w' w.heap.size (bitsUpto m 31) (.slice A (bitsUpto m 31).length c) ∧ Below w.heap.size w w' :=
  (bits_any m w hm).mono fun e w' ⟨v, he, hn, hb⟩ => by
    obtain ⟨A, c, rfl, hc⟩ := Nums.form hn
    exact ⟨A, c, he, hc, hn, hb⟩
set_option maxRecDepth 100000 in
theorem wordsType_any (m : Nat) (w : World) (hm : m < 2 ^ 6) :
    Calls Tryz.prog 72 #[.int .i64 m, .func (.func 62) #[] #[]] w fun e w' => ∃ v, e = .returned v ∧ Texts w' w.heap.size (maskWords typeT m) v ∧ Below w.heap.size w w' := by
  have hall : ∀ k (h : k < (bitsUpto m 31).length), (bitsUpto m 31)[k] < 6 := fun k h => bits_lt hm (List.getElem_mem h)
  have hle := bitsUpto_le m 31
  have HD : Hid (maskWords typeT m = (bitsUpto m 31).map (fun i => typeT.getD i [])) := rfl
  generalize maskWords typeT m = R at *
  go_enter Tryz.func72, Tryz.ntmps72
  go_wp2_with (go_at_call 75; refine (bits_s _ _ (by omega)).mono ?_; rintro e w1 ⟨A, c, rfl, hc, hn1, hb1⟩)
  generalize bitsUpto m 31 = bl at *
  have hsz1 := hb1.size
  go_loopw [5, 11] (fun v i wr => ∃ k : Nat, k ≤ bl.length ∧ i = .int .i64 k ∧ Texts wr w1.heap.size ((bl.take k).map (fun i => typeT.getD i [])) v ∧ Below w1.heap.size w1 wr) (fun _ i _ => bl.length - (intOf i).toNat)
  case atStart => exact ⟨0, by omega, rfl, Texts.nil _ _, Below.refl _ _⟩
  case round =>
    obtain ⟨k, hk, rfl, hown, hb⟩ := hrel
    have hsz := hb.size
    by_cases hlt : k < bl.length
    · obtain ⟨g, rfl, hg, hcl⟩ := hn1.at_ hlt
      have hcell := cell_belowB hb hg hcl
      have hi6 := hall k hlt
      have HX := Lib.hid (take_snoc_map (fun i => typeT.getD i []) bl k hlt)
      have hln : ((bl.take k).map (fun i => typeT.getD i [])).length < 1000000000 := by simp; omega
      clear hcl hall
      generalize bl[k] = j at *
      go_wp2_with (first | (go_at_call 62; refine (typeWord_any _ hi6 _).mono ?_; rintro e w' ⟨rfl, rfl⟩) | (at_builtin; refine wpList_text_push rfl (.tmp 15) (.tmp 19) 40 rfl Tryz.underlying40 info_str rfl rfl hown hln hsz ?_; intro v' w2 hown2 hb2))
      have hown3 : Texts w2 w1.heap.size ((bl.take (k + 1)).map (fun i => typeT.getD i [])) v' := by rw [HX.out]; exact hown2
      have hb3 : Below w1.heap.size w1 w2 := hb.trans hb2
      go_roundw
      case rel => exact ⟨k + 1, by omega, by go_num, hown3, hb3⟩
      case measure => simp [intOf]; omega
    · go_wp2
      go_ret
      obtain rfl : k = bl.length := by omega
      rw [List.take_length] at hown
      exact ⟨_, rfl, by rw [HD.out]; exact hown.base hsz1, below_all hb1 hb hsz1⟩
set_option maxRecDepth 100000 in
theorem wordsSuper_any (m : Nat) (w : World) (hm : m < 2 ^ 2) :
    Calls Tryz.prog 72 #[.int .i64 m, .func (.func 61) #[] #[]] w fun e w' => ∃ v, e = .returned v ∧ Texts w' w.heap.size (maskWords superT m) v ∧ Below w.heap.size w w' := by
  have hall : ∀ k (h : k < (bitsUpto m 31).length), (bitsUpto m 31)[k] < 2 := fun k h => bits_lt hm (List.getElem_mem h)
  have hle := bitsUpto_le m 31
  have HD : Hid (maskWords superT m = (bitsUpto m 31).map (fun i => superT.getD i [])) := rfl
  generalize maskWords superT m = R at *
  go_enter Tryz.func72, Tryz.ntmps72
  go_wp2_with (go_at_call 75; refine (bits_s _ _ (by omega)).mono ?_; rintro e w1 ⟨A, c, rfl, hc, hn1, hb1⟩)
  generalize bitsUpto m 31 = bl at *
  have hsz1 := hb1.size
  go_loopw [5, 11] (fun v i wr => ∃ k : Nat, k ≤ bl.length ∧ i = .int .i64 k ∧ Texts wr w1.heap.size ((bl.take k).map (fun i => superT.getD i [])) v ∧ Below w1.heap.size w1 wr) (fun _ i _ => bl.length - (intOf i).toNat)
  case atStart => exact ⟨0, by omega, rfl, Texts.nil _ _, Below.refl _ _⟩
  case round =>
    obtain ⟨k, hk, rfl, hown, hb⟩ := hrel
    have hsz := hb.size
    by_cases hlt : k < bl.length
    · obtain ⟨g, rfl, hg, hcl⟩ := hn1.at_ hlt
      have hcell := cell_belowB hb hg hcl
      have hi6 := hall k hlt
      have HX := Lib.hid (take_snoc_map (fun i => superT.getD i []) bl k hlt)
      have hln : ((bl.take k).map (fun i => superT.getD i [])).length < 1000000000 := by simp; omega
      clear hcl hall
      generalize bl[k] = j at *
      go_wp2_with (first | (go_at_call 61; refine (superWord_any _ hi6 _).mono ?_; rintro e w' ⟨rfl, rfl⟩) | (at_builtin; refine wpList_text_push rfl (.tmp 15) (.tmp 19) 40 rfl Tryz.underlying40 info_str rfl rfl hown hln hsz ?_; intro v' w2 hown2 hb2))
      have hown3 : Texts w2 w1.heap.size ((bl.take (k + 1)).map (fun i => superT.getD i [])) v' := by rw [HX.out]; exact hown2
      have hb3 : Below w1.heap.size w1 w2 := hb.trans hb2
      go_roundw
      case rel => exact ⟨k + 1, by omega, by go_num, hown3, hb3⟩
      case measure => simp [intOf]; omega
    · go_wp2
      go_ret
      obtain rfl : k = bl.length := by omega
      rw [List.take_length] at hown
      exact ⟨_, rfl, by rw [HD.out]; exact hown.base hsz1, below_all hb1 hb hsz1⟩
end Go.Proofs.YtakgfbcmkhcdkaaGreatDoor
namespace Go.Proofs.YtakgfbcmkhcdkaaGreatDoor
set_option linter.all false
open Go.ChangeShapes Go.WideShapes Go.RowKit
theorem Laid.below {w w' : World} (h : Laid w) (hb : Below w.heap.size w w') : Laid w' :=
  ⟨h.shaped.keptBut (hb.frame (fun _ => False)) (fun _ h => h.elim), Lib.tabBelow_of_tabIs h.tab w' hb,
   h.syn.imp fun _ ⟨p, hp⟩ => ⟨p, cell_below hb hp⟩, h.rng.imp fun _ ⟨p, hp⟩ => ⟨p, cell_below hb hp⟩,
   h.names.imp fun _ ⟨f, hf⟩ => ⟨f, (hb.block _ (by have := h.size; omega)).trans hf⟩, Nat.lt_of_lt_of_le h.size hb.size⟩
theorem beq_cast (n : Nat) : (((n : Nat) : Int) == 0) = (n == 0) := by
  rw [Bool.eq_iff_iff]; simp
def isSub (l : Str) : Bool := isName l && (bitFrom superT 0 l == 0 && bitFrom typeT 0 l == 0)
theorem isSub_any (s : ByteArray) (w : World) (hl : Laid w) :
    Calls Tryz.prog 30 #[.string s] w fun e w' => e = .returned (.bool (isSub (L s))) ∧ Below w.heap.size w w' := by
  have HD : Hid (isSub (L s) = (isName (L s) && (bitFrom superT 0 (L s) == 0 && bitFrom typeT 0 (L s) == 0))) := rfl
  generalize isSub (L s) = R at *
  go_enter Tryz.func30, Tryz.ntmps30
  go_wp2_with (first | (go_at_call 59; (with_reducible refine (wordIs_any _ _ hl.shaped).mono ?_); rintro e w1 ⟨rfl, hb⟩) | (go_at_call 60; (with_reducible refine (bitSuper_any _ _).mono ?_); rintro e w2 ⟨rfl, rfl⟩) | (go_at_call 60; (with_reducible refine (bitType_any _ _).mono ?_); rintro e w2 ⟨rfl, rfl⟩))
  all_goals
    go_ret
    refine ⟨ret_bool ?_, hb⟩
    rw [HD.out]; simp only [← beq_cast]; simp [*]
/-- Types as words joined by +; empty for others. -/
def typesText (m : Nat) : Str := if 1 ≤ m ∧ m ≤ 63 then Lib.join (maskWords typeT m) [43] else []
theorem maskWords_len (T : List Str) (m : Nat) : (maskWords T m).length ≤ 31 := by
  unfold maskWords; rw [List.length_map]; exact bitsUpto_le m 31
theorem maskWords_le {T : List Str} {K m : Nat} (hK : ∀ x ∈ T, x.length ≤ K) : ∀ x ∈ maskWords T m, x.length ≤ K := by
  intro x hx
  unfold maskWords at hx
  rw [List.mem_map] at hx
  obtain ⟨i, _, rfl⟩ := hx
  rcases Nat.lt_or_ge i T.length with h | h
  · simp only [List.getD, List.getElem?_eq_getElem h, Option.getD_some]; exact hK _ (List.getElem_mem h)
  · simp [List.getD, List.getElem?_eq_none h]
theorem wordsType_r (m : Nat) (w : World) (hm : m < 2 ^ 6) :
    Calls Tryz.prog 72 #[.int .i64 m, .func (.func 62) #[] #[]] w (RetTexts w (maskWords typeT m)) :=
  (wordsType_any m w hm).mono fun e w' ⟨v, he, ht, hb⟩ => by
    obtain ⟨A, c, rfl, _⟩ := ht.form
    exact ⟨A, c, he, ht, hb⟩
theorem wordsSuper_r (m : Nat) (w : World) (hm : m < 2 ^ 2) :
    Calls Tryz.prog 72 #[.int .i64 m, .func (.func 61) #[] #[]] w (RetTexts w (maskWords superT m)) :=
  (wordsSuper_any m w hm).mono fun e w' ⟨v, he, ht, hb⟩ => by
    obtain ⟨A, c, rfl, _⟩ := ht.form
    exact ⟨A, c, he, ht, hb⟩
theorem typesText_any (m : Nat) (w : World) :
    Calls Tryz.prog 36 #[.int .i64 m] w fun e w' => e = .returned (.string (B (typesText m))) ∧ Below w.heap.size w w' := by
  by_cases h : 1 ≤ m ∧ m ≤ 63
  · have HD : Hid (typesText m = Lib.join (maskWords typeT m) [43]) := if_pos h
    have hle : (Lib.join (maskWords typeT m) [43]).length ≤ 140737488355328 := by
      have h1 := join_le [43] 8 _ (maskWords_le (m := m) (show ∀ x ∈ typeT, x.length ≤ 8 by decide))
      have h2 := maskWords_len typeT m
      simp only [List.length_cons, List.length_nil] at h1; omega
    have hN : (maskWords typeT m).length ≤ 100000000 := by have := maskWords_len typeT m; omega
    generalize typesText m = R at *
    go_enter Tryz.func36, Tryz.ntmps36
    go_wp2_with (first | (go_at_call 72; (with_reducible refine (wordsType_r _ _ (by omega)).mono ?_); rintro e w1 ⟨A, c, rfl, ht, hb⟩) | (go_at_call 71; (with_reducible refine (join_any _ _ _ _ _ _ ht hN [43] rfl hle).mono ?_); rintro e w2 ⟨rfl, hb2⟩))
    · go_ret
      exact ⟨ret_str (by rw [HD.out]), below_two hb hb2⟩
    all_goals (exfalso; omega)
  · have HD : Hid (typesText m = []) := if_neg h
    generalize typesText m = R at *
    go_enter Tryz.func36, Tryz.ntmps36
    go_wp2
    all_goals first
      | (go_ret; exact ⟨ret_str (by rw [HD.out]; rfl), Below.refl _ _⟩)
      | (exfalso; omega)
def orBits (l : List Str) : Nat := l.foldl (fun m x => m ||| bitFrom typeT 0 x) 0
theorem orBits_snoc (l : List Str) (k : Nat) (h : k < l.length) : orBits (l.take (k + 1)) = orBits (l.take k) ||| bitFrom typeT 0 l[k] := by
  unfold orBits; rw [List.take_succ_eq_append_getElem h, List.foldl_append]; rfl
theorem bitFrom_lt (T : List Str) (s : Str) : ∀ k n, k + T.length ≤ n → bitFrom T k s < 2 ^ n := by
  induction T with
  | nil => intro k n _; simp [bitFrom, Nat.two_pow_pos]
  | cons x r ih =>
    intro k n h
    unfold bitFrom; split
    · exact Nat.pow_lt_pow_right (by omega) (by simp at h; omega)
    · exact ih _ _ (by simp at h; omega)
theorem orBits_lt (l : List Str) : orBits l < 2 ^ 6 := by
  have : ∀ (l : List Str) (a : Nat), a < 2 ^ 6 → l.foldl (fun m x => m ||| bitFrom typeT 0 x) a < 2 ^ 6 := by
    intro l
    induction l with
    | nil => intro a h; exact h
    | cons x r ih => intro a h; exact ih _ (Nat.or_lt_two_pow h (bitFrom_lt typeT x 0 6 (by decide)))
  exact this l 0 (by decide)
/-- The types with a text. -/
def ptOf (s : Str) : Option Nat := if orBits (splitOn 43 s) = 0 then none else if typesText (orBits (splitOn 43 s)) = s then some (orBits (splitOn 43 s)) else none
theorem eq_toList (a : Str) (s : ByteArray) : ((B a).toList == s.toList) = decide (a = L s) := by
  rw [B_toList, L_toList, Bool.eq_iff_iff]; simp
/-- A number and OK, or zero and ErrForm. -/
def optRet (o : Option Nat) : Value := match o with | some m => .tuple #[.int .i64 (m : Nat), .int .i64 0] | none => .tuple #[.int .i64 0, .int .i64 3]
theorem toList_yes {a : Str} {s : ByteArray} (h : a = L s) : (a == s.toList) = true := by rw [L_toList]; simpa using h
theorem toList_no {a : Str} {s : ByteArray} (h : ¬ a = L s) : (a == s.toList) = false := by rw [L_toList]; simpa using h
set_option maxRecDepth 100000 in
theorem parseTypes_any (s : ByteArray) (w : World) (hl : Laid w) (hs : s.size < 4294967281) :
    Calls Tryz.prog 100 #[.string s] w fun e w' => e = .returned (optRet (ptOf (L s))) ∧ Below w.heap.size w w' := by
  have hlen := splitOn_len 43 (L s)
  rw [size_l] at hlen
  have HD : Hid (ptOf (L s) = if orBits (splitOn 43 (L s)) = 0 then none else if typesText (orBits (splitOn 43 (L s))) = L s then some (orBits (splitOn 43 (L s))) else none) := rfl
  generalize ptOf (L s) = R at *
  go_enter Tryz.func100, Tryz.ntmps100
  go_wp2_with (go_at_call 134; (with_reducible refine (split_any _ _ _ hl.shaped hs).mono ?_); rintro e w1 ⟨A, c, rfl, ht, hb1⟩)
  generalize splitOn 43 (L s) = ws at *
  have hsz1 := hb1.size
  go_loop [4, 10] (fun m i => ∃ k : Nat, k ≤ ws.length ∧ i = .int .i64 k ∧ m = .int .i64 (orBits (ws.take k) : Nat)) (fun _ i => ws.length - (intOf i).toNat)
  case atStart => exact ⟨0, by omega, rfl, rfl⟩
  case round =>
    obtain ⟨k, hk, rfl, rfl⟩ := hrel
    by_cases hlt : k < ws.length
    · obtain ⟨g, rfl, hg, hcl⟩ := ht.at_ hlt
      have HX := Lib.hid (orBits_snoc ws k hlt)
      have hor := i64_or_nat (orBits (ws.take k)) (bitFrom typeT 0 ws[k]) (Nat.lt_trans (orBits_lt _) (by decide)) (Nat.lt_trans (bitFrom_lt typeT _ 0 6 (by decide)) (by decide))
      have hLB : Hid (L (B ws[k]) = ws[k]) := rfl
      generalize ws[k] = x at *
      go_wp2_with (go_at_call 60; (with_reducible refine (bitType_any _ _).mono ?_); rintro e w2 ⟨rfl, rfl⟩)
      go_round
      case rel => exact ⟨k + 1, by omega, by go_num, by rw [HX.out]⟩
      case measure => simp [intOf]; omega
    · obtain rfl : k = ws.length := by omega
      have hE : ws.take ws.length = ws := List.take_length
      rw [hE]; clear hE
      by_cases h0 : orBits ws = 0
      · have t0 : ((orBits ws : Nat) : Int) = 0 := by omega
        clear h0
        go_wp2
        go_ret2
        exact ⟨ret_val (by rw [HD.out, if_pos (by omega)]; rfl), hb1⟩
      · have t0 : (((orBits ws : Nat) : Int) == 0) = false := by simp only [beq_eq_false_iff_ne, ne_eq]; omega
        have H0 := Lib.hid h0; clear h0
        by_cases h1 : typesText (orBits ws) = L s
        · have t1 := toList_yes h1
          have H1 := Lib.hid h1; clear h1
          go_wp2_with (go_at_call 36; (with_reducible refine (typesText_any _ _).mono ?_); rintro e w2 ⟨rfl, hb2⟩)
          go_ret2
          exact ⟨ret_val (by rw [HD.out, if_neg H0.out, if_pos H1.out]; rfl), below_two hb1 hb2⟩
        · have t1 := toList_no h1
          have H1 := Lib.hid h1; clear h1
          go_wp2_with (go_at_call 36; (with_reducible refine (typesText_any _ _).mono ?_); rintro e w2 ⟨rfl, hb2⟩)
          go_ret2
          exact ⟨ret_val (by rw [HD.out, if_neg H0.out, if_neg H1.out]; rfl), below_two hb1 hb2⟩
end Go.Proofs.YtakgfbcmkhcdkaaGreatDoor
namespace Go.Proofs.YtakgfbcmkhcdkaaGreatDoor
set_option linter.all false
open Go.ChangeShapes Go.WideShapes Go.RowKit
/-- A mask's text: the names joined by +, none for 0. -/
def colorText (m : Nat) : Str := if m = 0 then noneW else Lib.join (maskWords colorT m) [43]
/-- The mask with a text. -/
def pcOf (s : Str) : Option Nat := (List.range 32).find? fun m => colorText m == s
theorem bitsUpto_ge {m k n : Nat} (hm : m < 2 ^ n) (hk : n ≤ k) : bitsUpto m k = bitsUpto m n := by
  induction k with
  | zero => obtain rfl : n = 0 := by omega
            rfl
  | succ k ih =>
    rcases Nat.lt_or_ge k n with h | h
    · obtain rfl : n = k + 1 := by omega
      rfl
    · rw [bitsUpto_no (Nat.testBit_lt_two_pow (Nat.lt_of_lt_of_le hm (Nat.pow_le_pow_right (by omega) h))), ih h]
theorem colorName_any (i : Nat) (hi : i < 5) (w : World) (hl : Laid w) :
    Calls Tryz.prog 81 #[.int .i64 i] w fun e w' => e = .returned (.string (B (colorT.getD i []))) ∧ w = w' := by
  obtain ⟨ty, fr, hh⟩ := hl.names
  have hc : w.cell? ⟨0, i, none⟩ = some (.string (B (colorT.getD i []))) := by
    rw [cell_of_row w _ i colorRow ty fr hh]
    rcases i with _ | _ | _ | _ | _ | i
    · rfl
    · rfl
    · rfl
    · rfl
    · rfl
    · omega
  clear hh
  generalize colorT.getD i [] = R at *
  go_enter Tryz.func81, Tryz.ntmps81
  go_wp2
  go_ret
  exact ⟨rfl, rfl⟩
theorem colorIs_yes (m : Nat) (hm : m < 32) (w : World) :
    Calls Tryz.prog 73 #[.int .i64 m] w fun e w' => e = .returned (.bool true) ∧ w = w' := by
  have h1 : ((m : Nat) : Int) ≤ 31 := by omega
  go_enter Tryz.func73, Tryz.ntmps73
  go_wp2
  go_ret
  exact ⟨rfl, rfl⟩
set_option maxRecDepth 100000 in
theorem colorText_any (m : Nat) (hm : m < 32) (w : World) (hl : Laid w) :
    Calls Tryz.prog 37 #[.int .i64 m] w fun e w' => e = .returned (.string (B (colorText m))) ∧ Below w.heap.size w w' := by
  obtain ⟨ty, fr, hh⟩ := hl.names
  by_cases h0 : m = 0
  · subst h0
    go_enter Tryz.func37, Tryz.ntmps37
    go_wp2
    go_ret
    exact ⟨rfl, Below.refl _ _⟩
  · have HD : Hid (colorText m = Lib.join (maskWords colorT m) [43]) := if_neg h0
    have ht0 : (((m : Nat) : Int) == 0) = false := by simp only [beq_eq_false_iff_ne, ne_eq]; omega
    generalize colorText m = R at *
    go_enter Tryz.func37, Tryz.ntmps37
    go_wp2_with (first | (go_at_call 73; (with_reducible refine (colorIs_yes _ hm _).mono ?_); rintro e w2 ⟨rfl, rfl⟩) | refine wpList_load_row rfl 97 _ rfl 0 rfl ty colorRow fr _ hh Tryz.underlying97 rfl (by kernel_rfl) ?_)
    clear hh hl
    go_loopw [3, 12] (fun v i wr => ∃ k : Nat, k ≤ 5 ∧ i = .int .i64 k ∧ Texts wr w.heap.size ((bitsUpto m k).map (fun i => colorT.getD i [])) v ∧ Below w.heap.size w wr) (fun _ i _ => 5 - (intOf i).toNat)
    case atStart => exact ⟨0, by omega, rfl, Texts.nil _ _, Below.refl _ _⟩
    case round =>
      obtain ⟨k, hk, rfl, hown, hb⟩ := hrel
      have hle := bitsUpto_le m k
      have hsz := hb.size
      by_cases hlt : k < 5
      · have i0 : ∀ w, (Instr.index 97 (.agg colorRow) (.int .i64 k)).run Tryz.prog w = .ok (.string (B (colorT.getD k []))) w := by
          intro w; rcases k with _ | _ | _ | _ | _ | k
          · kernel_rfl
          · kernel_rfl
          · kernel_rfl
          · kernel_rfl
          · kernel_rfl
          · omega
        cases hbit : m.testBit k
        · have ht : (bits .and .i64 ((m : Int) / 2 ^ k) 1 == 1) = false := (bit_test m k (by omega)).trans hbit
          have HX := Lib.hid (bitsUpto_no hbit); clear hbit
          go_wp2
          go_roundw
          case rel => exact ⟨k + 1, by omega, by go_num, by rw [HX.out]; exact hown, hb⟩
          case measure => simp [intOf]; omega
        · have ht : (bits .and .i64 ((m : Int) / 2 ^ k) 1 == 1) = true := (bit_test m k (by omega)).trans hbit
          have HX := Lib.hid (bitsUpto_yes hbit); clear hbit
          have hln : ((bitsUpto m k).map (fun i => colorT.getD i [])).length < 1000000000 := by simp; omega
          go_wp2_with (at_builtin; refine wpList_text_push rfl (.tmp 21) (.tmp 23) 40 rfl Tryz.underlying40 info_str rfl rfl hown hln hsz ?_; intro v' w2 hown2 hb2)
          have hown3 : Texts w2 w.heap.size ((bitsUpto m (k + 1)).map (fun i => colorT.getD i [])) v' := by rw [HX.out, List.map_append]; exact hown2
          have hb3 : Below w.heap.size w w2 := hb.trans hb2
          go_roundw
          case rel => exact ⟨k + 1, by omega, by go_num, hown3, hb3⟩
          case measure => simp [intOf]; omega
      · obtain rfl : k = 5 := by omega
        have hE : (bitsUpto m 5).map (fun i => colorT.getD i []) = maskWords colorT m := by rw [maskWords, bitsUpto_ge (k := 31) (n := 5) (by omega) (by omega)]
        rw [hE] at hown
        have hlen : (Lib.join (maskWords colorT m) [43]).length ≤ 140737488355328 := by
          have h1 := join_le [43] 8 _ (maskWords_le (m := m) (show ∀ x ∈ colorT, x.length ≤ 8 by decide))
          have h2 := maskWords_len colorT m
          simp only [List.length_cons, List.length_nil] at h1; omega
        have hN : (maskWords colorT m).length ≤ 100000000 := by have := maskWords_len colorT m; omega
        obtain ⟨A, c, rfl, hc⟩ := hown.form
        clear hE
        go_wp2_with (go_at_call 71; (with_reducible refine (join_any _ _ _ _ _ _ hown hN [43] rfl hlen).mono ?_); rintro e w2 ⟨rfl, hb2⟩)
        go_ret
        exact ⟨ret_str (by rw [HD.out]), below_two hb hb2⟩
/-- Parse returns the mask with a text. -/
theorem colorParse_any (s : ByteArray) (w : World) (hl : Laid w) :
    Calls Tryz.prog 101 #[.string s] w fun e w' => e = .returned (optRet (pcOf (L s))) ∧ Below w.heap.size w w' := by
  have HD : Hid (pcOf (L s) = (List.range' 0 32).find? fun m => colorText m == L s) := by rw [← List.range_eq_range']; rfl
  generalize pcOf (L s) = R at *
  go_enter Tryz.func101, Tryz.ntmps101
  go_wp2
  go_loopw [5] (fun i wr => ∃ k : Nat, k ≤ 32 ∧ i = .int .i64 k ∧ Below w.heap.size w wr ∧ Hid ((List.range' 0 32).find? (fun m => colorText m == L s) = (List.range' k (32 - k)).find? (fun m => colorText m == L s))) (fun i _ => 32 - (intOf i).toNat)
  case atStart => exact ⟨0, by omega, rfl, Below.refl _ _, rfl⟩
  case round =>
    obtain ⟨k, hk, rfl, hb, HF⟩ := hrel
    by_cases hlt : k < 32
    · have hlr := hl.below hb
      have hr : List.range' k (32 - k) = k :: List.range' (k + 1) (32 - (k + 1)) := by
        rw [show 32 - k = (32 - (k + 1)) + 1 by omega, List.range'_succ]
      by_cases hc : colorText k = L s
      · have t1 := toList_yes hc
        have HX : Hid ((List.range' k (32 - k)).find? (fun m => colorText m == L s) = some k) := by rw [hr, List.find?_cons, show (colorText k == L s) = true by simpa using hc]; rfl
        clear hr hc
        go_wp2_with (go_at_call 37; (with_reducible refine (colorText_any _ hlt _ hlr).mono ?_); rintro e w2 ⟨rfl, hb2⟩)
        go_ret2
        exact ⟨ret_val (by rw [HD.out, HF.out, HX.out]; rfl), below_all hb hb2 hb.size⟩
      · have t1 := toList_no hc
        have HX : Hid ((List.range' 0 32).find? (fun m => colorText m == L s) = (List.range' (k + 1) (32 - (k + 1))).find? (fun m => colorText m == L s)) := by
          rw [HF.out, hr, List.find?_cons, show (colorText k == L s) = false by simpa using hc]; rfl
        clear hr hc
        go_wp2_with (go_at_call 37; (with_reducible refine (colorText_any _ hlt _ hlr).mono ?_); rintro e w2 ⟨rfl, hb2⟩)
        have hb3 := below_all hb hb2 hb.size
        go_roundw
        case rel => exact ⟨k + 1, by omega, by go_num, hb3, HX⟩
        case measure => simp [intOf]; omega
    · obtain rfl : k = 32 := by omega
      go_wp2
      go_ret2
      exact ⟨ret_val (by rw [HD.out, HF.out]; rfl), hb⟩
end Go.Proofs.YtakgfbcmkhcdkaaGreatDoor
