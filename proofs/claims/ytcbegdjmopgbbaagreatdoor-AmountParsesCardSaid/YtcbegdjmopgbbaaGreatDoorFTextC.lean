/- Walks: package filter: Text of whatever filter. Conditions: Laid. -/
import Derived.Test.YtcbegdjmopgbbaaGreatDoorFTextB
namespace Go.Proofs.YtcbegdjmopgbbaaGreatDoor
set_option linter.all false
open Go.ChangeShapes Go.WideShapes Go.RowKit
set_option maxRecDepth 100000 in
theorem fltText_no (zone who self types ntypes colors ncolors : Int) (sub : ByteArray) (keys tap pk pn tk tn vk vn : Int) (w : World) (hl : Laid w) (hv : fltIs ⟨zone, who, self, types, ntypes, colors, ncolors, sub, keys, tap, pk, pn, tk, tn, vk, vn⟩ = false) :
    Calls Tryz.prog 21 #[.agg #[.int .i64 zone, .int .i64 who, .int .i64 self, .int .i64 types, .int .i64 ntypes, .int .i64 colors, .int .i64 ncolors, .string sub, .int .i64 keys, .int .i64 tap, .int .i64 pk, .int .i64 pn, .int .i64 tk, .int .i64 tn, .int .i64 vk, .int .i64 vn]] w fun e w' => e = .returned (.string ⟨#[]⟩) ∧ Below w.heap.size w w' := by
  have HV := Lib.hid hv; clear hv
  have hl1 : Laid (w.alloc (.cells #[.int .i64 zone, .int .i64 who, .int .i64 self, .int .i64 types, .int .i64 ntypes, .int .i64 colors, .int .i64 ncolors, .string sub, .int .i64 keys, .int .i64 tap, .int .i64 pk, .int .i64 pn, .int .i64 tk, .int .i64 tn, .int .i64 vk, .int .i64 vn] 25)) := hl.below ((Below.refl _ _).alloc (Nat.le_refl _) _)
  go_enter Tryz.func21, Tryz.ntmps21
  go_wp2_with (go_at_call 16; refine (fltIs_any _ _ _ _ _ _ _ _ _ _ _ _ _ _ _ _ _ hl1 false HV).mono ?_; rintro e w1 ⟨rfl, hb1⟩)
  go_ret
  exact ⟨rfl, below_two ((Below.refl _ _).alloc (Nat.le_refl _) _) hb1⟩
/-- A filter's fields as numbers from 0 on. -/
def toFN (f : Flt) : FN := ⟨f.zone.toNat, f.who.toNat, f.self.toNat, f.types.toNat, f.ntypes.toNat, f.colors.toNat, f.ncolors.toNat, L f.sub, f.keys.toNat, f.tap.toNat, f.pk.toNat, f.pn.toNat, f.tk.toNat, f.tn.toNat, f.vk.toNat, f.vn.toNat⟩
/-- A filter's text; empty if it is not valid. -/
def textOf (f : Flt) : Str := if fltIs f = true then fltText (toFN f) else []
theorem btw_nat {n m : Int} (h : btw n m = true) : ∃ k : Nat, n = (k : Int) ∧ (k : Int) ≤ m := by
  simp only [btw, Bool.and_eq_true, decide_eq_true_eq] at h
  exact ⟨n.toNat, by omega, by omega⟩
theorem bnd_nat {k n : Int} (h : bnd k n = true) : ∃ a b : Nat, k = (a : Int) ∧ n = (b : Int) ∧ a < 4 ∧ b ≤ 1000000 := by
  simp only [bnd, Bool.and_eq_true] at h
  obtain ⟨a, ha, ha2⟩ := btw_nat h.1
  obtain ⟨b, hb, hb2⟩ := btw_nat h.2.1
  exact ⟨a, b, ha, hb, by omega, by omega⟩
theorem isName_len {l : Str} (h : isName l = true) : l.length ≤ 32 := by
  simp only [isName, nmHead, Bool.and_eq_true, decide_eq_true_eq] at h; omega
theorem isSub_len {l : Str} (h : isSub l = true) : l.length ≤ 32 := by
  simp only [isSub, Bool.and_eq_true] at h; exact isName_len h.1
theorem boundW_len (name : Str) (hn : name.length ≤ 10) (k n : Nat) (hnn : n ≤ 1000000) : (boundW name k n).length ≤ 40 := by
  unfold boundW; split
  · simp
  · have h1 := wd_len (T := signT) (K := 2) (by decide) k
    have h2 := Lib.itoa_length_le n (by omega) (by omega)
    simp only [List.length_append]; omega
theorem addW_mem {l : List Str} {s : Str} {K : Nat} (hl : ∀ x ∈ l, x.length ≤ K) (hs : s.length ≤ K) : ∀ x ∈ addW l s, x.length ≤ K := by
  intro x hx; unfold addW at hx; split at hx
  · exact hl x hx
  · simp at hx; rcases hx with h | h
    · exact hl x h
    · subst h; exact hs
theorem addMask_mem {l : List Str} {p : Str} {T : List Str} {m K : Nat} (hl : ∀ x ∈ l, x.length ≤ K) (hp : ∀ i, (p ++ wd T i).length ≤ K) : ∀ x ∈ addMask l p T m, x.length ≤ K := by
  unfold addMask
  generalize bitsUpto m 31 = bl
  induction bl generalizing l with
  | nil => exact hl
  | cons i r ih => simp only [List.map_cons, List.foldl_cons]; exact ih (addW_mem hl (hp i))
theorem fltWordsB_mem (b : Bool) (f : FN) (hs : f.sub.length ≤ 32) (h1 : f.pn ≤ 1000000) (h2 : f.tn ≤ 1000000) (h3 : f.vn ≤ 1000000) : ∀ x ∈ fltWordsB b f, x.length ≤ 40 := by
  have wl : ∀ (T : List Str) (_ : ∀ x ∈ T, x.length ≤ 14) i, (wd T i).length ≤ 40 := fun T h i => by have := wd_len h i; omega
  have pl : ∀ (p : Str) (_ : p.length ≤ 5) (T : List Str) (_ : ∀ x ∈ T, x.length ≤ 14) i, (p ++ wd T i).length ≤ 40 := fun p hp T h i => by have := wd_len h i; rw [List.length_append]; omega
  have base : ∀ x ∈ addMask (addMask (addMask (addMask (addW (addW (addW [] (wd zoneT f.zone)) (wd whoT f.who)) (wd selfT f.self)) [] typeT f.types) nonW typeT f.ntypes) [] colorT f.colors) nonW colorT f.ncolors, x.length ≤ 40 :=
    addMask_mem (addMask_mem (addMask_mem (addMask_mem (addW_mem (addW_mem (addW_mem (by simp) (wl _ (by decide) _)) (wl _ (by decide) _)) (wl _ (by decide) _)) (pl _ (by decide) _ (by decide))) (pl _ (by decide) _ (by decide))) (pl _ (by decide) _ (by decide))) (pl _ (by decide) _ (by decide))
  unfold fltWordsB
  refine addW_mem (addW_mem (addW_mem (addW_mem (addMask_mem ?_ (pl _ (by decide) _ (by decide))) (wl _ (by decide) _)) (boundW_len _ (by decide) _ _ h1)) (boundW_len _ (by decide) _ _ h2)) (boundW_len _ (by decide) _ _ h3)
  cases b
  · exact addW_mem base (by rw [List.length_append]; show 4 + _ ≤ _; omega)
  · exact base
theorem fltWordsB_len (b : Bool) (f : FN) : (fltWordsB b f).length ≤ 200 := by
  have a1 := addMask_len (addW (addW (addW [] (wd zoneT f.zone)) (wd whoT f.who)) (wd selfT f.self)) [] typeT f.types
  have h0 := addW_len [] (wd zoneT f.zone)
  have h1 := addW_len (addW [] (wd zoneT f.zone)) (wd whoT f.who)
  have h2 := addW_len (addW (addW [] (wd zoneT f.zone)) (wd whoT f.who)) (wd selfT f.self)
  have a2 := addMask_len (addMask (addW (addW (addW [] (wd zoneT f.zone)) (wd whoT f.who)) (wd selfT f.self)) [] typeT f.types) nonW typeT f.ntypes
  have a3 := addMask_len (addMask (addMask (addW (addW (addW [] (wd zoneT f.zone)) (wd whoT f.who)) (wd selfT f.self)) [] typeT f.types) nonW typeT f.ntypes) [] colorT f.colors
  have a4 := addMask_len (addMask (addMask (addMask (addW (addW (addW [] (wd zoneT f.zone)) (wd whoT f.who)) (wd selfT f.self)) [] typeT f.types) nonW typeT f.ntypes) [] colorT f.colors) nonW colorT f.ncolors
  have last : ∀ l : List Str, l.length ≤ 150 → (addW (addW (addW (addW (addMask l withW kwT f.keys) (wd tapT f.tap)) (boundW powerW f.pk f.pn)) (boundW toughW f.tk f.tn)) (boundW valueW f.vk f.vn)).length ≤ 200 := by
    intro l hl
    have b1 := addMask_len l withW kwT f.keys
    have b2 := addW_len (addMask l withW kwT f.keys) (wd tapT f.tap)
    have b3 := addW_len (addW (addMask l withW kwT f.keys) (wd tapT f.tap)) (boundW powerW f.pk f.pn)
    have b4 := addW_len (addW (addW (addMask l withW kwT f.keys) (wd tapT f.tap)) (boundW powerW f.pk f.pn)) (boundW toughW f.tk f.tn)
    have b5 := addW_len (addW (addW (addW (addMask l withW kwT f.keys) (wd tapT f.tap)) (boundW powerW f.pk f.pn)) (boundW toughW f.tk f.tn)) (boundW valueW f.vk f.vn)
    omega
  simp only [List.length_nil] at h0
  unfold fltWordsB
  cases b
  · refine last _ ?_
    have b0 := addW_len (addMask (addMask (addMask (addMask (addW (addW (addW [] (wd zoneT f.zone)) (wd whoT f.who)) (wd selfT f.self)) [] typeT f.types) nonW typeT f.ntypes) [] colorT f.colors) nonW colorT f.ncolors) (subW ++ f.sub)
    simp only [cond_false]; omega
  · refine last _ ?_
    simp only [cond_true]; omega
theorem fltJoin_len (f : FN) (hs : f.sub.length ≤ 32) (h1 : f.pn ≤ 1000000) (h2 : f.tn ≤ 1000000) (h3 : f.vn ≤ 1000000) : (Lib.join (fltWords f) [32]).length ≤ 8200 := by
  have hm := fltWordsB_mem (f.sub == []) f hs h1 h2 h3
  have hn := fltWordsB_len (f.sub == []) f
  have h := join_le [32] 40 (fltWords f) hm
  have : (fltWords f).length * (40 + 1) ≤ 200 * (40 + 1) := Nat.mul_le_mul_right _ hn
  simp only [List.length_cons, List.length_nil] at h; omega
/-- Text returns a filter as words, and the empty text for others. -/
theorem fltText_any (zone who self types ntypes colors ncolors : Int) (sub : ByteArray) (keys tap pk pn tk tn vk vn : Int) (w : World) (hl : Laid w) :
    Calls Tryz.prog 21 #[.agg #[.int .i64 zone, .int .i64 who, .int .i64 self, .int .i64 types, .int .i64 ntypes, .int .i64 colors, .int .i64 ncolors, .string sub, .int .i64 keys, .int .i64 tap, .int .i64 pk, .int .i64 pn, .int .i64 tk, .int .i64 tn, .int .i64 vk, .int .i64 vn]] w fun e w' => e = .returned (.string (B (textOf ⟨zone, who, self, types, ntypes, colors, ncolors, sub, keys, tap, pk, pn, tk, tn, vk, vn⟩))) ∧ Below w.heap.size w w' := by
  cases hv : fltIs ⟨zone, who, self, types, ntypes, colors, ncolors, sub, keys, tap, pk, pn, tk, tn, vk, vn⟩ with
  | false =>
    refine (fltText_no zone who self types ntypes colors ncolors sub keys tap pk pn tk tn vk vn w hl hv).mono fun e w' ⟨he, hb⟩ => ⟨?_, hb⟩
    rw [he, textOf, hv]; rfl
  | true =>
    have hv2 := hv
    simp only [fltIs, okMasks, Bool.and_eq_true, Bool.or_eq_true, beq_iff_eq] at hv2
    obtain ⟨⟨g1, g2, g3, g4, g5⟩, ⟨g6, g7, g8⟩, ⟨g9, g10, g11⟩, g12, g13, g14, g15⟩ := hv2
    obtain ⟨z, rfl, hz⟩ := btw_nat g1
    obtain ⟨wh, rfl, hwh⟩ := btw_nat g2
    obtain ⟨se, rfl, hse⟩ := btw_nat g3
    obtain ⟨ta, rfl, hta⟩ := btw_nat g4
    obtain ⟨ke, rfl, hke⟩ := btw_nat g5
    obtain ⟨ty, rfl, hty⟩ := btw_nat g6
    obtain ⟨nt, rfl, hnt⟩ := btw_nat g7
    obtain ⟨co, rfl, hco⟩ := btw_nat g9
    obtain ⟨nc, rfl, hnc⟩ := btw_nat g10
    obtain ⟨pk, pn, rfl, rfl, hpk, hpn⟩ := bnd_nat g13
    obtain ⟨tk, tn, rfl, rfl, htk, htn⟩ := bnd_nat g14
    obtain ⟨vk, vn, rfl, rfl, hvk, hvn⟩ := bnd_nat g15
    have hsub : sub.size ≤ 32 := by
      rw [← size_l]
      rcases g12 with h | h
      · rw [h]; simp
      · exact isSub_len h
    have hj := fltJoin_len (mkFN z wh se ty nt co nc sub ke ta pk pn tk tn vk vn) (by show (L sub).length ≤ 32; rw [size_l]; exact hsub) hpn htn hvn
    refine (fltText_yes z wh se ty nt co nc sub ke ta pk pn tk tn vk vn w hl hv (by omega) (by omega) (by omega) (by omega) (by omega) (by omega) (by omega) hsub (by omega) (by omega) hpk hpn htk htn hvk hvn (by omega)).mono fun e w' ⟨he, hb⟩ => ⟨?_, hb⟩
    rw [he, textOf, hv]; rfl
end Go.Proofs.YtcbegdjmopgbbaaGreatDoor
