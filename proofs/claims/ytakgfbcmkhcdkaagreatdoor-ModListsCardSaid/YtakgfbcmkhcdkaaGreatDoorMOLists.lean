/- Walks: lists of modifications: ListText, the program's and the reference's. Conditions: Laid; the list lies in memory; it has fewer than a million elements. -/
import Derived.Test.YtakgfbcmkhcdkaaGreatDoorMOSeq
import Derived.Test.YtakgfbcmkhcdkaaGreatDoorMORText
import Derived.Test.YtakgfbcmkhcdkaaGreatDoorKeys
namespace Go.Proofs.YtakgfbcmkhcdkaaGreatDoor
set_option linter.all false
open Go.ChangeShapes Go.WideShapes Go.RowKit
attribute [local irreducible] wpList Code.wp Calls
theorem mdText_le (r : Md) : (mdText r).length ≤ 1000200 := by
  cases hv : mdIs r with
  | false => rw [mdText_no hv]; decide
  | true =>
    rw [show mdText r = mdBody r from if_pos hv]
    cases md_form hv with
    | control => decide
    | blank => decide
    | switch => decide
    | types2 k h1 h2 =>
      have h3 := types_len ⟨k, by omega⟩
      simp only at h3
      show (typesV ++ 61 :: typesText k).length ≤ _
      simp [typesV]; omega
    | types3 k h1 h2 =>
      have h3 := types_len ⟨k, by omega⟩
      simp only at h3
      show (typesPV ++ 61 :: typesText k).length ≤ _
      simp [typesPV]; omega
    | sub4 s hs =>
      have h3 := isSub_len hs
      show (subV ++ 61 :: L s).length ≤ _
      simp [subV]; omega
    | sub5 s hs =>
      have h3 := isSub_len hs
      show (subPV ++ 61 :: L s).length ≤ _
      simp [subPV]; omega
    | colors6 k h1 =>
      have h3 := colors_len ⟨k, by omega⟩
      simp only at h3
      show (colorsV ++ 61 :: colorText k).length ≤ _
      simp [colorsV]; omega
    | colors7 k h1 h2 =>
      have h3 := colors_len ⟨k, by omega⟩
      simp only at h3
      show (colorsPV ++ 61 :: colorText k).length ≤ _
      simp [colorsPV]; omega
    | keys8 k h1 h2 =>
      have h3 := keyText_le (m := k)
      show (keysPV ++ 61 :: keyText k).length ≤ _
      simp [keysPV]; omega
    | keys9 k h1 h2 =>
      have h3 := keyText_le (m := k)
      show (keysMV ++ 61 :: keyText k).length ≤ _
      simp [keysMV]; omega
    | count f hf =>
      have h3 := textOf_len (f := f)
      show (ptV ++ 61 :: (countPV ++ (textOf f ++ [41]))).length ≤ _
      simp [ptV, countPV]; omega
    | set12 n m h1 h2 h3 h4 =>
      have h5 := itoa99_le n (by omega) h2
      have h6 := itoa99_le m (by omega) h4
      show (ptV ++ 61 :: (Lib.itoa n ++ 47 :: Lib.itoa m)).length ≤ _
      simp [ptV]; omega
    | add13 n m h1 h2 h3 h4 =>
      have h5 := itoa99_le n h1 h2
      have h6 := itoa99_le m h3 h4
      show (ptPV ++ 61 :: (Lib.itoa n ++ 47 :: Lib.itoa m)).length ≤ _
      simp [ptPV]; omega
/-- The modifications l lie in block b from offset off on. -/
def MsAt (b off : Nat) (l : List Md) (w : World) : Prop := ∀ (k : Nat) (r : Md), l[k]? = some r → w.rangeAt b (off + k * 20) r.cells.toList
theorem MsAt.keep {b off : Nat} {l : List Md} {w1 w2 : World} (h : MsAt b off l w1) (hb : Below w1.heap.size w1 w2) : MsAt b off l w2 := fun k r hk j v hj => cell_below hb (h k r hk j v hj)
abbrev LaidA (b off : Nat) (l : List Md) (w : World) : Prop := Laid w ∧ MsAt b off l w
theorem keepsA (b off : Nat) (l : List Md) : ∀ w1 w2 : World, LaidA b off l w1 → Below w1.heap.size w1 w2 → LaidA b off l w2 := fun _ _ h hb => ⟨h.1.below hb, h.2.keep hb⟩
theorem wpList_ld_at {ops : Array Oper} {rest : List Oper} {o : Oper} {a : Act} {w : World} {Q : Exit → Act → World → Prop} (T : Nat) {x : Operand} (ho : o.op = .load T x) (hw : Region.wanted o (yielded ops a.tmps) = true) {b p : Nat} (hx : a.eval x = .pointer (some ⟨b, p, none⟩)) {ds : Array Value} (hr : w.rangeAt b p ds.toList)
    {d : TypeDesc} (hu : Tryz.prog.underlying T = some d) (hd : d.isRow = true) (hi : (Tryz.prog.info? T).map (·.size) = some ds.size) (h : wpList Tryz.prog ops Q rest (a.put o.dst (.agg ds)) w) : wpList Tryz.prog ops Q (o :: rest) a w := by
  unfold wpList
  rw [if_pos hw]
  exact .inl (wp_load_mid T x ho b p hx ds.toList d hr hu hd (by simpa using hi) (by simpa using h))
theorem wordJoin_any (l : List Str) (A : Option Addr) (c base : Nat) (w : World) (h : Texts w base l (.slice A l.length c)) (hN : l.length ≤ 100000000) (hlen : (Lib.join l [44, 32]).length ≤ 140737488355328) :
    Calls Tryz.prog 58 #[.slice A l.length c, .string ⟨#[44, 32]⟩] w fun e w' => e = .returned (.string (B (Lib.join l [44, 32]))) ∧ Below w.heap.size w w' := by
  go_enter Tryz.func58, Tryz.ntmps58
  go_wp2_with (go_at_call 71; (with_reducible refine (join_any _ _ _ _ _ _ h hN [44, 32] rfl hlen).mono ?_); rintro e w2 ⟨rfl, hb2⟩)
  go_ret
  exact ⟨rfl, hb2⟩
theorem join_le6 : ∀ (l : List Str), (∀ x ∈ l, x.length ≤ 1000200) → (Lib.join l commaV).length ≤ 1000300 * l.length
  | [], _ => by simp [Lib.join_nil]
  | [a], h => by rw [Lib.join_one]; have := h a (by simp); simp; omega
  | a :: b :: r, h => by
    have ih := join_le6 (b :: r) (fun x hx => h x (.tail _ hx))
    have ha := h a (by simp)
    rw [join_cons2]
    simp only [List.length_append, List.length_cons] at ih ⊢
    have : commaV.length = 2 := rfl
    omega
theorem take_snocM (l : List Md) (k : Nat) (r : Md) (hr : l[k]? = some r) : l.take (k + 1) = l.take k ++ [r] := by
  rw [List.take_succ, hr]; rfl
set_option maxRecDepth 100000 in
set_option maxHeartbeats 4000000 in
theorem listText_any (l : List Md) (b off c : Nat) (w0 : World) (hl : LaidA b off l w0) (h0 : l.length < 1000000) : Calls Tryz.prog 26 #[.slice (some ⟨b, off, none⟩) l.length c] w0 fun e w' => e = .returned (.string (B (mlText l))) ∧ Below w0.heap.size w0 w' := by
  obtain ⟨R, hR⟩ : ∃ R, mlText l = R := ⟨_, rfl⟩
  rw [hR]
  have HR := Lib.hid hR
  clear hR
  have hS := St.start hl (keepsA b off l)
  by_cases h1 : 1 ≤ l.length ∧ l.length ≤ 6
  · obtain ⟨h1, h6⟩ := h1
    have hz1 : decide ((l.length : Int) < 1) = false := by simp; omega
    have hz6 : decide ((l.length : Int) > 6) = false := by simp; omega
    have hz7 : decide (6 < (l.length : Int)) = false := by simp; omega
    go_enter Tryz.func26, Tryz.ntmps26
    go_wp2_with (first | fail)
    go_loopw [3, 16] (fun tv iv wr => ∃ (k : Nat) (v : Value), k ≤ l.length ∧ iv = .int .i64 k ∧ tv = v ∧ Hid ((l.take k).all mdIs = true) ∧ Hid (Texts wr w0.heap.size ((l.take k).map mdText) v) ∧ Hid (Below w0.heap.size w0 wr)) (fun _ iv _ => l.length - (intOf iv).toNat)
    case atStart => exact ⟨0, .slice none 0 0, by omega, rfl, rfl, Lib.hid rfl, Lib.hid (Texts.nil _ _), Lib.hid hS.below⟩
    case round =>
      clear hS
      obtain ⟨k, v, hk, rfl, rfl, HV, HT, HB⟩ := hrel
      have hS := St.start (keepsA b off l _ _ hl HB.out) (keepsA b off l)
      have hszb := HB.out.size
      by_cases hlt : k < l.length
      · obtain ⟨r, hr⟩ : ∃ r, l[k]? = some r := ⟨l[k], List.getElem?_eq_getElem hlt⟩
        have HK := Lib.hid hr
        have hln : ((l.take k).map mdText).length < 1000000000 := by rw [List.length_map, List.length_take]; omega
        cases hv : mdIs r with
        | false =>
          have HI := Lib.hid hv.symm
          have HE : Hid (R = []) := Lib.hid (by
            rw [← HR.out]; unfold mlText; rw [if_neg]
            rintro ⟨_, _, ha⟩
            have := List.all_eq_true.1 ha r (List.mem_of_getElem? hr)
            rw [hv] at this; cases this)
          clear hr hv
          go_wp2_with (first | (go_at_call 12; (with_reducible refine (St.call hS fun hl => mdIs_is _ _ HI _ hl.1).mono ?_); rintro e w ⟨rfl, hS⟩) | ((with_reducible refine at_load ?_); refine wpList_ld_at TMd rfl rfl rfl (hS.laid.2 k r HK.out) Tryz.underlying27 rfl md_info ?_; (try simp only [Act.put, List.setIfInBounds_toArray, List.set_cons_zero, List.set_cons_succ])) | ((with_reducible refine at_alloc ?_); (first | (refine wpList_new 27 rfl hS rfl _ md_new ?_; intro g w hS)); (try simp only [Act.put, List.setIfInBounds_toArray, List.set_cons_zero, List.set_cons_succ])) | ((with_reducible refine at_load ?_); (first | (refine md_ldw rfl hS rfl rfl (by (first | exact .head | exact .tail .head | exact .tail (.tail .head) | exact .tail (.tail (.tail .head)) | exact .tail (.tail (.tail (.tail .head))) | fail)) ?_)); (try simp only [Act.put, List.setIfInBounds_toArray, List.set_cons_zero, List.set_cons_succ])) | ((with_reducible refine at_store ?_); (first | (refine md_stw rfl hS rfl rfl rfl (by first | exact .head | exact .tail .head | exact .tail (.tail .head) | exact .tail (.tail (.tail .head)) | exact .tail (.tail (.tail (.tail .head))) | fail) ?_; intro w hS)); (try simp only [Act.put, List.setIfInBounds_toArray, List.set_cons_zero, List.set_cons_succ])))
          all_goals go_ret
          all_goals exact ⟨ret_B HE.out.symm, HB.out.trans (hS.below.mono hszb)⟩
        | true =>
          have HI := Lib.hid hv.symm
          obtain ⟨T, hT⟩ : ∃ T, mdText r = T := ⟨_, rfl⟩
          have HTx := Lib.hid hT
          have HV2 : Hid ((l.take (k + 1)).all mdIs = true) := Lib.hid (by rw [take_snocM l k r hr, List.all_append, HV.out]; simp [hv])
          have HM : Hid ((l.take (k + 1)).map mdText = (l.take k).map mdText ++ [L (B T)]) := Lib.hid (by rw [take_snocM l k r hr, List.map_append, L_B, ← hT]; rfl)
          clear hr hv hT
          go_wp2_with (first | (go_at_call 12; (with_reducible refine (St.call hS fun hl => mdIs_is _ _ HI _ hl.1).mono ?_); rintro e w ⟨rfl, hS⟩) | (go_at_call 14; (with_reducible refine (St.call hS fun hl => mdText_is _ _ HTx _ hl.1).mono ?_); rintro e w ⟨rfl, hS⟩) | ((with_reducible refine at_load ?_); refine wpList_ld_at TMd rfl rfl rfl (hS.laid.2 k r HK.out) Tryz.underlying27 rfl md_info ?_; (try simp only [Act.put, List.setIfInBounds_toArray, List.set_cons_zero, List.set_cons_succ])) | (at_builtin; refine wpList_text_push rfl (.tmp 23) (.tmp 26) 40 rfl Tryz.underlying40 info_str rfl rfl (HT.out.below hS.below) hln (Nat.le_trans hszb hS.below.size) ?_; intro v' w2 hown2 hb2) | ((with_reducible refine at_alloc ?_); (first | (refine wpList_new 27 rfl hS rfl _ md_new ?_; intro g w hS)); (try simp only [Act.put, List.setIfInBounds_toArray, List.set_cons_zero, List.set_cons_succ])) | ((with_reducible refine at_load ?_); (first | (refine md_ldw rfl hS rfl rfl (by (first | exact .head | exact .tail .head | exact .tail (.tail .head) | exact .tail (.tail (.tail .head)) | exact .tail (.tail (.tail (.tail .head))) | fail)) ?_)); (try simp only [Act.put, List.setIfInBounds_toArray, List.set_cons_zero, List.set_cons_succ])) | ((with_reducible refine at_store ?_); (first | (refine md_stw rfl hS rfl rfl rfl (by first | exact .head | exact .tail .head | exact .tail (.tail .head) | exact .tail (.tail (.tail .head)) | exact .tail (.tail (.tail (.tail .head))) | fail) ?_; intro w hS)); (try simp only [Act.put, List.setIfInBounds_toArray, List.set_cons_zero, List.set_cons_succ])))
          have hown3 : Texts w2 w0.heap.size ((l.take (k + 1)).map mdText) v' := by rw [HM.out]; exact hown2
          have hb3 : Below w0.heap.size w0 w2 := (HB.out.trans (hS.below.mono hszb)).trans hb2
          go_roundw
          case rel => exact ⟨k + 1, v', by omega, by go_num, rfl, HV2, Lib.hid hown3, Lib.hid hb3⟩
          case measure => simp [intOf]; omega
      · obtain rfl : k = l.length := by omega
        have h2 := HT.out
        have h3 := HV.out
        rw [List.take_length] at h2 h3
        have hne : l ≠ [] := fun e => by rw [e] at h1; simp at h1
        have HE : Hid (R = Lib.join (l.map mdText) [44, 32]) := Lib.hid (by rw [← HR.out]; unfold mlText; rw [if_pos ⟨hne, h6, h3⟩]; rfl)
        have hjl : (Lib.join (l.map mdText) [44, 32]).length ≤ 140737488355328 := by
          have := join_le6 (l.map mdText) (fun x hx => by
            obtain ⟨r, _, rfl⟩ := List.mem_map.1 hx
            exact mdText_le r)
          rw [List.length_map] at this
          have e : commaV = [44, 32] := rfl
          rw [e] at this; omega
        have hN : (l.map mdText).length ≤ 100000000 := by rw [List.length_map]; omega
        obtain ⟨A2, c2, rfl, _⟩ := h2.form
        clear HT HV h3
        generalize l.map mdText = ts at *
        have HT := Lib.hid h2
        clear h2
        go_wp2_with (first | (go_at_call 58; (with_reducible refine (St.call hS fun hl => wordJoin_any _ _ _ _ _ HT.out hN hjl).mono ?_); rintro e w ⟨rfl, hS⟩))
        all_goals go_ret
        all_goals exact ⟨ret_B HE.out.symm, HB.out.trans (hS.below.mono hszb)⟩
  · have HE : Hid (R = []) := Lib.hid (by
      rw [← HR.out]; unfold mlText; rw [if_neg]; rintro ⟨a, b, _⟩; exact h1 ⟨List.length_pos_iff.2 a, b⟩)
    have h1' : l.length = 0 ∨ 6 < l.length := by omega
    rcases h1' with h1' | h1'
    · have hz : ((l.length : Int) < 1) = True := by simp; omega
      go_enter Tryz.func26, Tryz.ntmps26
      go_wp2_with (first | fail)
      all_goals go_ret
      all_goals exact ⟨ret_B HE.out.symm, hS.below⟩
    · go_enter Tryz.func26, Tryz.ntmps26
      go_wp2_with (first | ((with_reducible refine at_guard ?_); (first | (refine wpList_pass rfl ?_) | ((fail_if_success refine wpList_wanted rfl ?_); refine wpList_ask _ _ rfl rfl (fun hb => ?_) (fun hb => ?_) <;> (first | (obtain rfl := eq_of_beq hb) | (simp only [hb])))); (try simp only [Act.put, List.setIfInBounds_toArray, List.set_cons_zero, List.set_cons_succ])))
      all_goals go_ret
      all_goals exact ⟨ret_B HE.out.symm, hS.below⟩
theorem join_takeM (l : List Md) (k : Nat) (r : Md) (hr : l[k]? = some r) : Lib.join ((l.take (k + 1)).map mdText) commaV = if k = 0 then mdText r else Lib.join ((l.take k).map mdText) commaV ++ (commaV ++ mdText r) := by
  rw [take_snocM l k r hr, List.map_append, List.map_cons, List.map_nil, join_snoc]
  have hlt : k < l.length := by
    rcases Nat.lt_or_ge k l.length with h | h
    · exact h
    · rw [List.getElem?_eq_none h] at hr; cases hr
  by_cases h0 : k = 0
  · subst h0; rw [if_pos (by simp), if_pos rfl]
  · have : (l.take k).map mdText ≠ [] := fun e => by
      have := congrArg List.length e
      rw [List.length_map, List.length_take] at this; simp only [List.length_nil] at this; omega
    rw [if_neg this, if_neg h0, List.append_assoc]
theorem takeJ_le (l : List Md) (k : Nat) (hk : k ≤ 6) : (Lib.join ((l.take k).map mdText) commaV).length ≤ 7000000 := by
  have := join_le6 ((l.take k).map mdText) (fun x hx => by
    obtain ⟨r, _, rfl⟩ := List.mem_map.1 hx
    exact mdText_le r)
  rw [List.length_map, List.length_take] at this
  have h2 : min k l.length ≤ 6 := by omega
  have h3 : 1000300 * min k l.length ≤ 1000300 * 6 := Nat.mul_le_mul_left _ h2
  omega
set_option maxRecDepth 100000 in
set_option maxHeartbeats 4000000 in
theorem r15ListText_any (l : List Md) (b off c : Nat) (w0 : World) (hl : LaidA b off l w0) (h0 : l.length < 1000000) : Calls Tryz.prog 27 #[.slice (some ⟨b, off, none⟩) l.length c] w0 fun e w' => e = .returned (.string (B (mlText l))) ∧ Below w0.heap.size w0 w' := by
  obtain ⟨R, hR⟩ : ∃ R, mlText l = R := ⟨_, rfl⟩
  rw [hR]
  have HR := Lib.hid hR
  clear hR
  have hS := St.start hl (keepsA b off l)
  by_cases h1 : 1 ≤ l.length ∧ l.length ≤ 6
  · obtain ⟨h1, h6⟩ := h1
    have hz1 : ((l.length : Int) == 0) = false := by rw [beq_eq_false_iff_ne]; omega
    have hz6 : decide ((l.length : Int) > 6) = false := by simp; omega
    have hz7 : decide (6 < (l.length : Int)) = false := by simp; omega
    go_enter Tryz.func27, Tryz.ntmps27
    go_wp2_with (first | fail)
    go_loopw [3, 4] (fun sv iv wr => ∃ (k : Nat) (p : Str), k ≤ l.length ∧ p.length ≤ 7000000 ∧ iv = .int .i64 k ∧ sv = .string (B p) ∧ Hid ((l.take k).all mdIs = true) ∧ Hid (Lib.join ((l.take k).map mdText) commaV = p) ∧ Hid (Below w0.heap.size w0 wr)) (fun _ iv _ => l.length - (intOf iv).toNat)
    case atStart => exact ⟨0, [], by omega, by simp, rfl, rfl, Lib.hid rfl, Lib.hid rfl, Lib.hid hS.below⟩
    case round =>
      clear hS
      obtain ⟨k, p, hk, hp, rfl, rfl, HV, HP, HB⟩ := hrel
      have hS := St.start (keepsA b off l _ _ hl HB.out) (keepsA b off l)
      have hszb := HB.out.size
      by_cases hlt : k < l.length
      · obtain ⟨r, hr⟩ : ∃ r, l[k]? = some r := ⟨l[k], List.getElem?_eq_getElem hlt⟩
        have HK := Lib.hid hr
        cases hv : mdIs r with
        | false =>
          have HI := Lib.hid hv.symm
          have HE : Hid (R = []) := Lib.hid (by
            rw [← HR.out]; unfold mlText; rw [if_neg]
            rintro ⟨_, _, ha⟩
            have := List.all_eq_true.1 ha r (List.mem_of_getElem? hr)
            rw [hv] at this; cases this)
          clear hr hv
          go_wp2_with (first | (go_at_call 13; (with_reducible refine (St.call hS fun hl => r15Is_is _ _ HI _ hl.1).mono ?_); rintro e w ⟨rfl, hS⟩) | ((with_reducible refine at_load ?_); refine wpList_ld_at TMd rfl rfl rfl (hS.laid.2 k r HK.out) Tryz.underlying27 rfl md_info ?_; (try simp only [Act.put, List.setIfInBounds_toArray, List.set_cons_zero, List.set_cons_succ])))
          all_goals go_ret
          all_goals exact ⟨ret_B HE.out.symm, HB.out.trans (hS.below.mono hszb)⟩
        | true =>
          have HI := Lib.hid hv.symm
          obtain ⟨T, hT⟩ : ∃ T, mdText r = T := ⟨_, rfl⟩
          have HTx := Lib.hid hT
          have hTl := mdText_le r
          rw [hT] at hTl
          have hj := join_takeM l k r hr
          rw [hT, HP.out] at hj
          have hjl := takeJ_le l (k + 1) (by omega)
          have HV2 : Hid ((l.take (k + 1)).all mdIs = true) := Lib.hid (by rw [take_snocM l k r hr, List.all_append, HV.out]; simp [hv])
          clear hr hv hT
          by_cases hk0 : k = 0
          · subst hk0
            rw [if_pos rfl] at hj
            rw [hj] at hjl
            have HJ := Lib.hid hj
            have hp0 : p = [] := by rw [← HP.out]; rfl
            subst hp0
            clear hj
            go_wp2_with (first | (go_at_call 13; (with_reducible refine (St.call hS fun hl => r15Is_is _ _ HI _ hl.1).mono ?_); rintro e w ⟨rfl, hS⟩) | (go_at_call 15; (with_reducible refine (St.call hS fun hl => r15Text_is _ _ HTx _ hl.1).mono ?_); rintro e w ⟨rfl, hS⟩) | ((with_reducible refine at_load ?_); refine wpList_ld_at TMd rfl rfl rfl (hS.laid.2 0 r HK.out) Tryz.underlying27 rfl md_info ?_; (try simp only [Act.put, List.setIfInBounds_toArray, List.set_cons_zero, List.set_cons_succ])) | ((with_reducible refine at_cat ?_); (first | (refine wpList_cat rfl rfl rfl rfl (by first | (simp only [List.length_append, List.length_cons, List.length_nil]; omega) | fail) ?_)); (try simp only [Act.put, List.setIfInBounds_toArray, List.set_cons_zero, List.set_cons_succ])))
            go_roundw
            case rel => exact ⟨1, T, by omega, hjl, by go_num, by simp, HV2, HJ, Lib.hid (HB.out.trans (hS.below.mono hszb))⟩
            case measure => simp [intOf]; omega
          · rw [if_neg hk0] at hj
            rw [hj] at hjl
            have HJ := Lib.hid hj
            have hk1 : decide ((k : Int) > 0) = true := by simp; omega
            have hk2 : decide (0 < (k : Int)) = true := by simp; omega
            clear hj
            go_wp2_with (first | (go_at_call 13; (with_reducible refine (St.call hS fun hl => r15Is_is _ _ HI _ hl.1).mono ?_); rintro e w ⟨rfl, hS⟩) | (go_at_call 15; (with_reducible refine (St.call hS fun hl => r15Text_is _ _ HTx _ hl.1).mono ?_); rintro e w ⟨rfl, hS⟩) | ((with_reducible refine at_load ?_); refine wpList_ld_at TMd rfl rfl rfl (hS.laid.2 k r HK.out) Tryz.underlying27 rfl md_info ?_; (try simp only [Act.put, List.setIfInBounds_toArray, List.set_cons_zero, List.set_cons_succ])) | ((with_reducible refine at_cat ?_); (first | (refine wpList_cat rfl rfl rfl rfl (by first | (simp only [List.length_append, List.length_cons, List.length_nil]; omega) | fail) ?_)); (try simp only [Act.put, List.setIfInBounds_toArray, List.set_cons_zero, List.set_cons_succ])))
            go_roundw
            case rel => exact ⟨k + 1, p ++ (commaV ++ T), by omega, hjl, by go_num, by simp [commaV], HV2, HJ, Lib.hid (HB.out.trans (hS.below.mono hszb))⟩
            case measure => simp [intOf]; omega
      · obtain rfl : k = l.length := by omega
        have h2 := HP.out
        have h3 := HV.out
        rw [List.take_length] at h2 h3
        have hne : l ≠ [] := fun e => by rw [e] at h1; simp at h1
        have HE : Hid (R = p) := Lib.hid (by rw [← HR.out]; unfold mlText; rw [if_pos ⟨hne, h6, h3⟩]; exact h2)
        clear h2 h3
        go_wp2_with (first | fail)
        all_goals go_ret
        all_goals exact ⟨ret_B HE.out.symm, HB.out.trans (hS.below.mono hszb)⟩
  · have HE : Hid (R = []) := Lib.hid (by
      rw [← HR.out]; unfold mlText; rw [if_neg]; rintro ⟨a, b, _⟩; exact h1 ⟨List.length_pos_iff.2 a, b⟩)
    have h1' : l.length = 0 ∨ 6 < l.length := by omega
    rcases h1' with h1' | h1'
    · have hz : ((l.length : Int) == 0) = true := by rw [beq_iff_eq]; omega
      go_enter Tryz.func27, Tryz.ntmps27
      go_wp2_with (first | fail)
      all_goals go_ret
      all_goals exact ⟨ret_B HE.out.symm, hS.below⟩
    · go_enter Tryz.func27, Tryz.ntmps27
      go_wp2_with (first | ((with_reducible refine at_guard ?_); (first | (refine wpList_pass rfl ?_) | ((fail_if_success refine wpList_wanted rfl ?_); refine wpList_ask _ _ rfl rfl (fun hb => ?_) (fun hb => ?_) <;> (first | (obtain rfl := eq_of_beq hb) | (simp only [hb])))); (try simp only [Act.put, List.setIfInBounds_toArray, List.set_cons_zero, List.set_cons_succ])))
      all_goals go_ret
      all_goals exact ⟨ret_B HE.out.symm, hS.below⟩
end Go.Proofs.YtakgfbcmkhcdkaaGreatDoor
