/- ModLists: the walk, over contracts for alive and short that are handed in. Conditions: Laid; the list lies in memory. A list of modifications handed in: what it holds. Conditions: none. ModLists: ListText and ParseList agree with the reference's, and invert each other. Conditions: Laid; the list lies in memory. -/
import Derived.Test.YtakgfbcmkhcdkaaGreatDoorMORList
import Derived.Test.YtakgfbcmkhcdkaaGreatDoorMFra
import Derived.Deep.Slices
import Derived.Test.YtakgfbcmkhcdkaaGreatDoorMOBack
namespace Go.Proofs.YtakgfbcmkhcdkaaGreatDoor
set_option linter.all false
open Go.ChangeShapes Go.WideShapes Go.RowKit
attribute [local irreducible] wpList Code.wp Calls
/-- A list handed in: empty, or in a block. -/
def ArgAt (A : Option Addr) (l : List Md) (w : World) : Prop := l = [] ∨ ∃ b off, A = some ⟨b, off, none⟩ ∧ MsAt b off l w
theorem ArgAt.keep {A : Option Addr} {l : List Md} {w1 w2 : World} (h : ArgAt A l w1) (hb : Below w1.heap.size w1 w2) : ArgAt A l w2 := h.imp id fun ⟨b, off, e, hm⟩ => ⟨b, off, e, hm.keep hb⟩
abbrev LArg (A : Option Addr) (l : List Md) (w : World) : Prop := Laid w ∧ ArgAt A l w
theorem keepsG (A : Option Addr) (l : List Md) : ∀ w1 w2 : World, LArg A l w1 → Below w1.heap.size w1 w2 → LArg A l w2 := fun _ _ h hb => ⟨h.1.below hb, h.2.keep hb⟩
theorem listText_arg (l : List Md) (T : Str) (h : Hid (mlText l = T)) (A : Option Addr) (c : Nat) (w : World) (hl : LArg A l w) (h0 : l.length < 1000000) : Calls Tryz.prog 26 #[.slice A l.length c] w fun e w' => e = .returned (.string (B T)) ∧ Below w.heap.size w w' := by
  obtain rfl := h.out
  rcases hl.2 with rfl | ⟨b, off, rfl, hm⟩
  · exact (listText_nil A c w).mono fun e w' h' => ⟨h'.1, h'.2 ▸ Below.refl _ _⟩
  · exact listText_any l b off c w ⟨hl.1, hm⟩ h0
theorem r15ListText_arg (l : List Md) (T : Str) (h : Hid (mlText l = T)) (A : Option Addr) (c : Nat) (w : World) (hl : LArg A l w) (h0 : l.length < 1000000) : Calls Tryz.prog 27 #[.slice A l.length c] w fun e w' => e = .returned (.string (B T)) ∧ Below w.heap.size w w' := by
  obtain rfl := h.out
  rcases hl.2 with rfl | ⟨b, off, rfl, hm⟩
  · exact (r15ListText_nil A c w).mono fun e w' h' => ⟨h'.1, h'.2 ▸ Below.refl _ _⟩
  · exact r15ListText_any l b off c w ⟨hl.1, hm⟩ h0
theorem listText_at (l : List Md) (T : Str) (h : Hid (mlText l = T)) (g c : Nat) (w : World) (hl : Laid w) (hm : MsAt g 0 l w) (h0 : l.length < 1000000) : Calls Tryz.prog 26 #[.slice (some ⟨g, 0, none⟩) l.length c] w fun e w' => e = .returned (.string (B T)) ∧ Below w.heap.size w w' := by
  obtain rfl := h.out
  exact listText_any l g 0 c w ⟨hl, hm⟩ h0
theorem run_ld_at {w : World} {o : Oper} {a : Act} {T : Nat} {x : Operand} (ho : o.op = .load T x) {b p : Nat} (hx : a.eval x = .pointer (some ⟨b, p, none⟩)) {ds : Array Value} (hr : w.rangeAt b p ds.toList) {d : TypeDesc} (hu : Tryz.prog.underlying T = some d) (hd : d.isRow = true) (hi : (Tryz.prog.info? T).map (·.size) = some ds.size) : (execOp a.eval o).run Tryz.prog w = .ok (.value (.agg ds)) w := by
  have hl := run_loadVar_mid (P := Tryz.prog) w b p T ds.toList d hr hu hd (by simpa using hi)
  unfold execOp
  simp only [ho, hx, Instr.loadAt, Instr.sureAddr, Sem.run_bind, Sem.run_pure, Result.andThen_ok, hl, Array.toArray_toList]
theorem runS_ld_at {L : World → Prop} {w0 : World} {rows : List Row} {ops : Array Oper} {rest : List Oper} {o : Oper} {a : Act} {Q : Exit → Act → World → Prop} (T : Nat) {x : Operand} (ho : o.op = .load T x) (hw : Region.wanted o (yielded ops a.tmps) = true) {b p : Nat} (hx : a.eval x = .pointer (some ⟨b, p, none⟩)) {ds : Array Value} (hr : ∀ w, St L w0 rows w → w.rangeAt b p ds.toList)
    {d : TypeDesc} (hu : Tryz.prog.underlying T = some d) (hd : d.isRow = true) (hi : (Tryz.prog.info? T).map (·.size) = some ds.size) (hq : ∀ c a w, Q (.panic c) (a.put o.dst (.agg ds)) w → Q (.panic c) a w) (h : RunS Tryz.prog ops Q (St L w0 rows) rest (a.put o.dst (.agg ds))) : RunS Tryz.prog ops Q (St L w0 rows) (o :: rest) a :=
  runS_val hw hq (fun w hS => run_ld_at ho hx (hr w hS) hu hd hi) h
set_option maxRecDepth 100000 in
set_option maxHeartbeats 16000000 in
theorem modLists_core (halive : ∀ w, Laid w → Calls Tryz.prog 11 #[] w fun e w' => e = .returned (.bool true) ∧ Below w.heap.size w w')
    (hshort : ∀ (r : Md) (b : Bool), Hid (b = (decide (r.sub.size ≤ 100) && decide (r.f.sub.size ≤ 100))) → ∀ w, Laid w → Calls Tryz.prog 10 #[.agg r.cells] w fun e w' => e = .returned (.bool b) ∧ Below w.heap.size w w')
    (l : List Md) (A : Option Addr) (c : Nat) (s : Str) (w0 : World) (hl : LArg A l w0) : Calls Tryz.prog 9 #[.slice A l.length c, .string (B s)] w0 fun e w' => e = .returned (.bool true) ∧ Below w0.heap.size w0 w' := by
  have hS := St.start hl (keepsG A l)
  by_cases hcut : l.length ≤ 10 ∧ s.length ≤ 1500
  · obtain ⟨h10, h15⟩ := hcut
    have h0 : l.length < 1000000 := by omega
    have hz1 : decide ((l.length : Int) > 10) = false := by simp; omega
    have hz2 : decide (10 < (l.length : Int)) = false := by simp; omega
    have hz3 : decide ((s.length : Int) > 1500) = false := by simp; omega
    have hz4 : decide (1500 < (s.length : Int)) = false := by simp; omega
    have hsz : (B s).size = s.length := B_size s
    obtain ⟨T, hT⟩ : ∃ T, mlText l = T := ⟨_, rfl⟩
    have HT := Lib.hid hT
    have hTl : T.length < 100000000 := by
      rw [← hT]; unfold mlText
      split
      · rename_i hh
        have := join_le6 (l.map mdText) (fun x hx => by
          obtain ⟨r, _, rfl⟩ := List.mem_map.1 hx
          exact mdText_le r)
        rw [List.length_map] at this; omega
      · simp
    have hTp : T ≠ [] → mlParse T = some l := fun h => by
      rw [← hT] at h ⊢
      obtain ⟨a1, a2, a3⟩ := mlText_ne h
      exact mlParse_text a1 a2 a3
    clear hT
    go_enter Tryz.func9, Tryz.ntmps9
    go_wp2_with (first | fail)
    go_loopw [5] (fun iv wr => ∃ k : Nat, k ≤ l.length ∧ iv = .int .i64 k ∧ Hid (Below w0.heap.size w0 wr)) (fun iv _ => l.length - (intOf iv).toNat)
    case atStart => exact ⟨0, by omega, rfl, Lib.hid hS.below⟩
    case round =>
      clear hS
      obtain ⟨k, hk, rfl, HB⟩ := hrel
      have hS := St.start (keepsG A l _ _ hl HB.out) (keepsG A l)
      have hszb := HB.out.size
      by_cases hlt : k < l.length
      · obtain ⟨b, off, rfl, hm0⟩ : ∃ b off, A = some ⟨b, off, none⟩ ∧ MsAt b off l _ := hS.laid.2.resolve_left (fun e => by rw [e] at hlt; simp at hlt)
        obtain ⟨r, hr⟩ : ∃ r, l[k]? = some r := ⟨l[k], List.getElem?_eq_getElem hlt⟩
        have HK := Lib.hid hr
        have HM := Lib.hid hm0
        clear hr hm0
        obtain ⟨sb, hsb⟩ : ∃ b, b = (decide (r.sub.size ≤ 100) && decide (r.f.sub.size ≤ 100)) := ⟨_, rfl⟩
        have HSB := Lib.hid hsb
        clear hsb
        cases sb with
        | false =>
          go_wp2_with (first | (go_at_call 10; (with_reducible refine (St.call hS fun hl => hshort _ _ HSB _ hl.1).mono ?_); rintro e w ⟨rfl, hS⟩) | (go_at_call 11; (with_reducible refine (St.call hS fun hl => halive _ hl.1).mono ?_); rintro e w ⟨rfl, hS⟩) | ((with_reducible refine at_load ?_); refine wpList_ld_at TMd rfl rfl rfl (HM.out k r HK.out) Tryz.underlying27 rfl md_info ?_; (try simp only [Act.put, List.setIfInBounds_toArray, List.set_cons_zero, List.set_cons_succ])))
          all_goals go_ret
          all_goals exact ⟨ret_bool (by simp), HB.out.trans (hS.below.mono hszb)⟩
        | true =>
          go_wp2_with (first | (go_at_call 10; (with_reducible refine (St.call hS fun hl => hshort _ _ HSB _ hl.1).mono ?_); rintro e w ⟨rfl, hS⟩) | ((with_reducible refine at_load ?_); refine wpList_ld_at TMd rfl rfl rfl (HM.out k r HK.out) Tryz.underlying27 rfl md_info ?_; (try simp only [Act.put, List.setIfInBounds_toArray, List.set_cons_zero, List.set_cons_succ])))
          go_roundw
          case rel => exact ⟨k + 1, by omega, by go_num, Lib.hid (HB.out.trans (hS.below.mono hszb))⟩
          case measure => simp [intOf]; omega
      · obtain rfl : k = l.length := by omega
        have HL := Lib.hid hS.laid
        cases hp : mlParse s with
        | none =>
          have HP := Lib.hid hp
          clear hp
          by_cases hT0 : T = []
          · subst hT0
            go_wp2_with (first | (go_at_call 11; (with_reducible refine (St.call hS fun hl => halive _ hl.1).mono ?_); rintro e w ⟨rfl, hS⟩) | (go_at_call 24; (with_reducible refine (plist_none s (by omega) HP _ hS.laid.1).mono ?_); rintro e w ⟨rfl, hbx⟩; have hS := hS.mono hbx) | (go_at_call 25; (with_reducible refine (rlist_none s (by omega) HP _ hS.laid.1).mono ?_); rintro e w ⟨rfl, hbx⟩; have hS := hS.mono hbx) | (go_at_call 26; (with_reducible refine (listText_arg l _ HT _ _ _ hS.laid h0).mono ?_); rintro e w ⟨rfl, hbx⟩; have hS := hS.mono hbx) | (go_at_call 27; (with_reducible refine (r15ListText_arg l _ HT _ _ _ hS.laid h0).mono ?_); rintro e w ⟨rfl, hbx⟩; have hS := hS.mono hbx) | ((with_reducible refine loop_here ?_); refine wp_loop_rounds 1 ?_) | (with_reducible refine rounds_step ?_))
            all_goals go_ret
            all_goals exact ⟨ret_bool (by simp), HB.out.trans (hS.below.mono hszb)⟩
          · have HPT := Lib.hid (hTp hT0)
            have hT1 : (T == []) = false := by simpa using hT0
            clear hT0
            go_wp2_with (first | (go_at_call 11; (with_reducible refine (St.call hS fun hl => halive _ hl.1).mono ?_); rintro e w ⟨rfl, hS⟩) | (go_at_call 24; (with_reducible refine (plist_none s (by omega) HP _ hS.laid.1).mono ?_); rintro e w ⟨rfl, hbx⟩; have hS := hS.mono hbx) | (go_at_call 25; (with_reducible refine (rlist_none s (by omega) HP _ hS.laid.1).mono ?_); rintro e w ⟨rfl, hbx⟩; have hS := hS.mono hbx) | (go_at_call 26; (with_reducible refine (listText_arg l _ HT _ _ _ hS.laid h0).mono ?_); rintro e w ⟨rfl, hbx⟩; have hS := hS.mono hbx) | (go_at_call 27; (with_reducible refine (r15ListText_arg l _ HT _ _ _ hS.laid h0).mono ?_); rintro e w ⟨rfl, hbx⟩; have hS := hS.mono hbx) | ((with_reducible refine loop_here ?_); refine wp_loop_rounds 1 ?_) | (with_reducible refine rounds_step ?_) | (go_at_call 24; (with_reducible refine (plist_some T hTl l HPT _ hS.laid.1).mono ?_); rintro e w ⟨gc, cc, rfl, hmc, hbx⟩; have hS := hS.mono hbx) | (go_at_call 26; (with_reducible refine (listText_at l T HT _ _ _ hS.laid.1 hmc h0).mono ?_); rintro e w ⟨rfl, hbx⟩; have hS := hS.mono hbx))
            all_goals go_ret
            all_goals exact ⟨ret_bool (by simp), HB.out.trans (hS.below.mono hszb)⟩
        | some ms =>
          have HP := Lib.hid hp
          obtain ⟨m1, m2, m3, m4⟩ := mlParse_back hp
          have HMT := Lib.hid m4
          have hms0 : ms.length < 1000000 := by omega
          clear hp m1 m3 m4
          go_wp2_with (first | (go_at_call 24; (with_reducible refine (plist_some s (by omega) ms HP _ hS.laid.1).mono ?_); rintro e w ⟨ga, ca, rfl, hma, hbx⟩; have hS := hS.mono hbx) | (go_at_call 25; (with_reducible refine (rlist_some s (by omega) ms HP _ hS.laid.1).mono ?_); rintro e w ⟨gb, cb, rfl, hmb, hbx⟩; have hma := hma.keep hbx; have hS := hS.mono hbx) | (go_at_call 26; (with_reducible refine (listText_arg l _ HT _ _ _ hS.laid h0).mono ?_); rintro e w ⟨rfl, hbx⟩; have hma := hma.keep hbx; have hmb := hmb.keep hbx; have hS := hS.mono hbx) | (go_at_call 27; (with_reducible refine (r15ListText_arg l _ HT _ _ _ hS.laid h0).mono ?_); rintro e w ⟨rfl, hbx⟩; have hma := hma.keep hbx; have hmb := hmb.keep hbx; have hS := hS.mono hbx))
          have HB := Lib.hid (HB.out.trans (hS.below.mono hszb))
          have hszb := HB.out.size
          have HMA := Lib.hid hma
          have HMB := Lib.hid hmb
          have HLW := Lib.hid hS.laid
          clear hma hmb hS HL
          go_loopw [10] (fun iv wr => ∃ k : Nat, k ≤ ms.length ∧ iv = .int .i64 k ∧ Hid (Below w.heap.size w wr)) (fun iv _ => ms.length - (intOf iv).toNat)
          case atStart => exact ⟨0, by omega, rfl, Lib.hid (Below.refl _ _)⟩
          case round =>
            obtain ⟨k, hk2, rfl, HQ⟩ := hrel
            have hszq := HQ.out.size
            by_cases hlt2 : k < ms.length
            · obtain ⟨m, hm⟩ : ∃ m, ms[k]? = some m := ⟨ms[k], List.getElem?_eq_getElem hlt2⟩
              have HK := Lib.hid hm
              have heq := fun (wx : World) => (neq_md m m wx).trans (by rw [mdEq_refl])
              have hS := St.start (L := fun x => LArg A l x ∧ (MsAt ga 0 ms x ∧ MsAt gb 0 ms x)) ⟨keepsG A l _ _ HLW.out HQ.out, HMA.out.keep HQ.out, HMB.out.keep HQ.out⟩ (fun _ _ h hb => ⟨keepsG A l _ _ h.1 hb, h.2.1.keep hb, h.2.2.keep hb⟩)
              clear hm
              go_wp2_with (first | ((with_reducible refine rat_load ?_); refine runS_ld_at (ds := Md.cells m) TMd rfl rfl rfl (fun w hS => by have := hS.laid.2.1 k m HK.out; rwa [Nat.zero_add] at this) Tryz.underlying27 rfl md_info (fun _ _ _ h => h) ?_; (try simp only [Act.put, List.setIfInBounds_toArray, List.set_cons_zero, List.set_cons_succ])) | ((with_reducible refine rat_load ?_); refine runS_ld_at (ds := Md.cells m) TMd rfl rfl rfl (fun w hS => by have := hS.laid.2.2 k m HK.out; rwa [Nat.zero_add] at this) Tryz.underlying27 rfl md_info (fun _ _ _ h => h) ?_; (try simp only [Act.put, List.setIfInBounds_toArray, List.set_cons_zero, List.set_cons_succ])) | ((with_reducible refine region_here ?_); refine wp_region_St hS (by kernel_rfl) (by kernel_rfl) ?_) | ((with_reducible refine runS_end ?_); intro w hS) | ((with_reducible refine runS_here ?_); (refine runS_val (v := ?_) rfl (fun _ _ _ h => h) ?_ ?_; rotate_left; (focus ((intro w hS; go_simp) <;> with_reducible rfl))); (try simp only [Act.put, List.setIfInBounds_toArray, List.set_cons_zero, List.set_cons_succ])))
              go_roundw
              case rel => exact ⟨k + 1, by omega, by go_num, Lib.hid (HQ.out.trans (hS.below.mono hszq))⟩
              case measure => simp [intOf]; omega
            · obtain rfl : k = ms.length := by omega
              have hS := St.start (keepsG A l _ _ HLW.out HQ.out) (keepsG A l)
              have hma := HMA.out.keep HQ.out
              have HB := Lib.hid (HB.out.trans (HQ.out.mono hszb))
              have hszb := HB.out.size
              clear HMA HMB HLW HQ
              by_cases hT0 : T = []
              · subst hT0
                go_wp2_with (first | (go_at_call 11; (with_reducible refine (St.call hS fun hl => halive _ hl.1).mono ?_); rintro e w ⟨rfl, hS⟩) | (go_at_call 26; (with_reducible refine (listText_at ms s HMT _ _ _ hS.laid.1 hma hms0).mono ?_); rintro e w ⟨rfl, hbx⟩; have hS := hS.mono hbx) | (go_at_call 26; (with_reducible refine (listText_arg l _ HT _ _ _ hS.laid h0).mono ?_); rintro e w ⟨rfl, hbx⟩; have hS := hS.mono hbx))
                all_goals go_ret
                all_goals exact ⟨ret_bool (by simp), HB.out.trans (hS.below.mono hszb)⟩
              · have HPT := Lib.hid (hTp hT0)
                have hT1 : (T == []) = false := by simpa using hT0
                clear hT0
                go_wp2_with (first | (go_at_call 11; (with_reducible refine (St.call hS fun hl => halive _ hl.1).mono ?_); rintro e w ⟨rfl, hS⟩) | (go_at_call 26; (with_reducible refine (listText_at ms s HMT _ _ _ hS.laid.1 hma hms0).mono ?_); rintro e w ⟨rfl, hbx⟩; have hS := hS.mono hbx) | (go_at_call 26; (with_reducible refine (listText_arg l _ HT _ _ _ hS.laid h0).mono ?_); rintro e w ⟨rfl, hbx⟩; have hS := hS.mono hbx) | (go_at_call 24; (with_reducible refine (plist_some T hTl l HPT _ hS.laid.1).mono ?_); rintro e w ⟨gc, cc, rfl, hmc, hbx⟩; have hS := hS.mono hbx) | (go_at_call 26; (with_reducible refine (listText_at l T HT _ _ _ hS.laid.1 hmc h0).mono ?_); rintro e w ⟨rfl, hbx⟩; have hS := hS.mono hbx))
                all_goals go_ret
                all_goals exact ⟨ret_bool (by simp), HB.out.trans (hS.below.mono hszb)⟩
  · have hcut' : 10 < l.length ∨ 1500 < s.length := by omega
    have hsz : (B s).size = s.length := B_size s
    by_cases hb10 : 10 < l.length
    · have z1 : decide ((l.length : Int) > 10) = true := by simp; omega
      have z2 : decide (10 < (l.length : Int)) = true := by simp; omega
      go_enter Tryz.func9, Tryz.ntmps9
      go_wp2_with (first | (go_at_call 11; (with_reducible refine (St.call hS fun hl => halive _ hl.1).mono ?_); rintro e w ⟨rfl, hS⟩))
      all_goals go_ret
      all_goals exact ⟨ret_bool (by simp), hS.below⟩
    · have z1 : decide ((l.length : Int) > 10) = false := by simp; omega
      have z2 : decide (10 < (l.length : Int)) = false := by simp; omega
      have z3 : decide ((s.length : Int) > 1500) = true := by simp; omega
      have z4 : decide (1500 < (s.length : Int)) = true := by simp; omega
      go_enter Tryz.func9, Tryz.ntmps9
      go_wp2_with (first | (go_at_call 11; (with_reducible refine (St.call hS fun hl => halive _ hl.1).mono ?_); rintro e w ⟨rfl, hS⟩))
      all_goals go_ret
      all_goals exact ⟨ret_bool (by simp), hS.below⟩
end Go.Proofs.YtakgfbcmkhcdkaaGreatDoor
namespace Go.Proofs.YtakgfbcmkhcdkaaGreatDoor
set_option linter.all false
open Go.ChangeShapes Go.WideShapes Go.RowKit Go.Joins
set_option maxRecDepth 100000 in
theorem md_cells {H : Type} {enc : TypeId × Value → H} {W : World} {sp : Nat → Bool} {held : Bool} {n0 : Nat} {cs : List Value} {x : DataW H × List MemPlace} (hlen0 : cs.length = 20) (hf : DataW.trod enc Tryz.prog W 0 sp held n0 27 cs = some x) : ∃ f : Md, cs = f.cells.toList ∧ x.2 = [] := by
  obtain ⟨a, b, d, e, c0, c1, c2, c3, c4, c5, c6, c7, c8, c9, c10, c11, c12, c13, c14, c15, rfl⟩ := list20 hlen0
  obtain ⟨xs, n, _, hx, _, hlen, hh⟩ := DataW.trod_struct Tryz.underlying27 hf
  obtain ⟨y0, y1, y2, y3, y4, rfl⟩ := list5 (l := xs) (by simpa using hlen)
  obtain ⟨ka, ea, za⟩ := one_int (c := a) Tryz.underlying3 (hh 0 _ rfl)
  obtain ⟨kb, eb, zb⟩ := one_int (c := b) Tryz.underlying3 (hh 1 _ rfl)
  obtain ⟨kd, ed, zd⟩ := one_int (c := d) Tryz.underlying3 (hh 2 _ rfl)
  obtain ⟨se, ee, ze⟩ := one_str (c := e) (hh 3 _ rfl)
  obtain ⟨f, ef, zf⟩ := open_flt16 (c0 := c0) (c1 := c1) (c2 := c2) (c3 := c3) (c4 := c4) (c5 := c5) (c6 := c6) (c7 := c7) (c8 := c8) (c9 := c9) (c10 := c10) (c11 := c11) (c12 := c12) (c13 := c13) (c14 := c14) (c15 := c15) (hh 4 _ rfl)
  subst ea eb ed ee
  obtain ⟨q0, q1, q2, q3, q4, q5, q6, q7, q8, q9, q10, q11, q12, q13, q14, q15⟩ := f
  simp only [Flt.cells, List.cons.injEq, and_true] at ef
  obtain ⟨rfl, rfl, rfl, rfl, rfl, rfl, rfl, rfl, rfl, rfl, rfl, rfl, rfl, rfl, rfl, rfl⟩ := ef
  refine ⟨⟨ka, kb, kd, se, ⟨q0, q1, q2, q3, q4, q5, q6, q7, q8, q9, q10, q11, q12, q13, q14, q15⟩⟩, rfl, ?_⟩
  have := congrArg Prod.snd hx
  simpa [za, zb, zd, ze, zf] using this
instance : Inhabited Md := ⟨zeroM⟩
set_option maxRecDepth 100000 in
set_option maxHeartbeats 1000000 in
theorem open_mds {H : Type} {enc : TypeId × Value → H} {W : World} {r : Reach} {sp : Nat → Bool} {held : Bool} {b0 : Nat} {v : Value} {dd : DataW H} {p : List MemPlace} (hv : Value.okWide Tryz.prog W r b0 TMds v)
    (h : DataW.Trod enc Tryz.prog W 0 sp held TMds v dd p) : ∃ (A : Option Addr) (l : List Md) (c : Nat), v = .slice A l.length c ∧ ArgAt A l W ∧ ∀ x ∈ p, x.block < W.heap.size := by
  obtain ⟨A0, n0, c0, rfl⟩ := okWide_slice Tryz.underlying51 hv
  obtain ⟨fuel, hf⟩ := h
  have hf' : DataW.trod enc Tryz.prog W 0 sp held fuel TMds [.slice A0 n0 c0] = some (dd, p) := hf
  rcases Go.Deep.open_slice Tryz.underlying51 hf' with ⟨h1, h2⟩ | ⟨a, len, cap, m, n, D, Pl, h1, _, hlc, _, hm, hx, hel⟩
  · have e1 : Value.slice A0 n0 c0 = .slice none 0 0 := by simpa using h1
    rw [e1]
    have e2 : p = [] := congrArg Prod.snd h2
    exact ⟨none, [], 0, rfl, .inl rfl, by rw [e2]; simp⟩
  · have e1 : Value.slice A0 n0 c0 = .slice (some a) len cap := by simpa using h1
    rw [e1]
    rw [Tryz.cellsMd] at hel hx
    have hlm : len ≤ m := by rw [hm]; split <;> omega
    have each : ∀ i, i < m → ∃ f : Md, W.cells? 0 (a.add (i * 20)) 20 = some f.cells.toList ∧ Pl i = [] := fun i hi => by
      obtain ⟨cs, g1, g2⟩ := hel i hi
      obtain ⟨f, e, z⟩ := md_cells ((World.cells?_some g1).2.1) g2
      exact ⟨f, by rw [← e]; exact g1, z⟩
    obtain ⟨q, hq⟩ := Go.Deep.choose_lt each
    have cellAt : ∀ i, i < m → ∀ (j : Nat) (u : Value), (q i).cells.toList[j]? = some u → W.cell? (a.add (i * 20 + j)) = some u := fun i hi j u hj => by
      have hj20 : j < 20 := by
        rcases Nat.lt_or_ge j (q i).cells.toList.length with h' | h'
        · exact h'
        · rw [List.getElem?_eq_none h'] at hj; cases hj
      have := (World.cells?_some (hq i hi).1).2.2 j hj20
      rw [Go.Deep.add_add] at this
      rw [this]; exact hj
    have hp : p = MemPlace.row a (m * 20) ++ (List.range m).flatMap Pl := congrArg Prod.snd hx
    have hpl : (List.range m).flatMap Pl = [] := by
      rw [List.flatMap_eq_nil_iff]
      intro i hi
      exact (hq i (List.mem_range.1 hi)).2
    rw [hpl, List.append_nil] at hp
    have hblk : 0 < m → a.spot = none ∧ a.block < W.heap.size := fun h0 => by
      have := cellAt 0 h0 0 (.int .i64 (q 0).kind) rfl
      have e0 : a.add (0 * 20 + 0) = a := by simp [Addr.add]
      rw [e0] at this
      exact ⟨World.cell?_spot this, World.block_lt_of_cell? W a this⟩
    have hold : ∀ x ∈ p, x.block < W.heap.size := by
      rw [hp]
      intro x hx
      obtain ⟨i, hi, rfl⟩ := List.mem_map.1 hx
      have := List.mem_range.1 hi
      exact (hblk (by omega)).2
    refine ⟨some a, (List.range len).map q, cap, by simp, ?_, hold⟩
    by_cases h0 : len = 0
    · left; rw [h0]; rfl
    · right
      obtain ⟨b, off, spot⟩ := a
      obtain rfl : spot = none := (hblk (by omega)).1
      refine ⟨b, off, rfl, fun k r hk j u hj => ?_⟩
      have hkl : k < len := by
        rcases Nat.lt_or_ge k len with h' | h'
        · exact h'
        · rw [List.getElem?_eq_none (by simpa using h')] at hk; cases hk
      have er : q k = r := by
        rw [List.getElem?_map, List.getElem?_range hkl] at hk
        exact Option.some.inj hk
      have := cellAt k (by omega) j u (by rw [er]; exact hj)
      have ea : (⟨b, off, none⟩ : Addr).add (k * 20 + j) = ⟨b, off + k * 20 + j, none⟩ := by
        unfold Addr.add
        split
        · rename_i hz
          have : k * 20 = 0 ∧ j = 0 := by omega
          rw [this.1, this.2]; simp
        · simp [Nat.add_assoc]
      rw [ea] at this
      exact this
theorem modLists_law (l : List Md) (A : Option Addr) (c : Nat) (s : ByteArray) (w : World) (hl : Laid w) (hA : ArgAt A l w)
    (halive : ∀ w, Laid w → Calls Tryz.prog 11 #[] w fun e w' => e = .returned (.bool true) ∧ Below w.heap.size w w')
    (hshort : ∀ (r : Md) (b : Bool), Hid (b = (decide (r.sub.size ≤ 100) && decide (r.f.sub.size ≤ 100))) → ∀ w, Laid w → Calls Tryz.prog 10 #[.agg r.cells] w fun e w' => e = .returned (.bool b) ∧ Below w.heap.size w w') :
    Calls Tryz.prog 9 #[.slice A l.length c, .string s] w fun e w' => e = .returned (.bool true) ∧ Below w.heap.size w w' := by
  have := modLists_core halive hshort l A c (L s) w ⟨hl, hA⟩
  rwa [B_L] at this
end Go.Proofs.YtakgfbcmkhcdkaaGreatDoor
namespace Go.Proofs.YtakgfbcmkhcdkaaGreatDoor
set_option linter.all false
open Go.ChangeShapes Go.WideShapes Go.RowKit
theorem modLists_any (l : List Md) (A : Option Addr) (c : Nat) (s : ByteArray) (w : World) (hl : Laid w) (hA : ArgAt A l w) : Calls Tryz.prog 9 #[.slice A l.length c, .string s] w fun e w' => e = .returned (.bool true) ∧ Below w.heap.size w w' :=
  modLists_law l A c s w hl hA (fun w hl => aliveO_any w hl) (fun r b h w hl => shortO_is r b h w hl)
end Go.Proofs.YtakgfbcmkhcdkaaGreatDoor
