/- Walks of the reference: package cardgameref13: Text of a valid filter. Conditions: the join's length. Walks of the reference: package cardgameref13: Text of whatever filter. Conditions: none. -/
import Derived.Test.YtakgfbcmkhcdkaaGreatDoorRefB
import Derived.Test.YtakgfbcmkhcdkaaGreatDoorMRFIs
import Derived.Test.YtakgfbcmkhcdkaaGreatDoorMFText
import Derived.Deep.DeepCutAuto
namespace Go.Proofs.YtakgfbcmkhcdkaaGreatDoor
set_option linter.all false
open Go.ChangeShapes Go.WideShapes Go.RowKit
theorem bitsU_ge {m N : Nat} (h : m < 2 ^ N) : ∀ k, N ≤ k → bitsUpto m k = bitsUpto m N
  | 0, hk => by
    obtain rfl : N = 0 := by omega
    rfl
  | k + 1, hk => by
    by_cases e : N = k + 1
    · rw [e]
    · have hb : m.testBit k = false := Nat.testBit_lt_two_pow (Nat.lt_of_lt_of_le h (Nat.pow_le_pow_right (by omega) (by omega)))
      rw [bitsUpto_no hb]; exact bitsU_ge h k (by omega)
theorem foldl_addW_app (l m : List Str) (h : ∀ x ∈ m, x ≠ []) : m.foldl addW l = l ++ m := by
  induction m generalizing l with
  | nil => simp
  | cons x r ih =>
    rw [List.foldl_cons, ih _ (fun y hy => h y (List.mem_cons_of_mem _ hy)), addW, if_neg (h x (by simp))]; simp
theorem addMask_eq (l : List Str) (p : Str) (T : List Str) {m N : Nat} (hm : m < 2 ^ N) (hN : N ≤ 31) (hne : ∀ i, i < N → p ++ wd T i ≠ []) : addMask l p T m = l ++ (bitsUpto m N).map fun i => p ++ wd T i := by
  unfold addMask
  rw [bitsU_ge hm 31 hN, foldl_addW_app]
  intro x hx
  obtain ⟨i, hi, rfl⟩ := List.mem_map.1 hx
  exact hne i (bitsUpto_lt hi)
theorem mask_no {l L0 : List Str} {p : Str} {T : List Str} {m k : Nat} (h : l = L0 ++ (bitsUpto m k).map fun i => p ++ wd T i) (hb : m.testBit k = false) : l = L0 ++ (bitsUpto m (k + 1)).map fun i => p ++ wd T i := by rw [bitsUpto_no hb]; exact h
theorem mask_yes {l L0 : List Str} {p : Str} {T : List Str} {m k : Nat} (h : l = L0 ++ (bitsUpto m k).map fun i => p ++ wd T i) (hb : m.testBit k = true) : l ++ [p ++ wd T k] = L0 ++ (bitsUpto m (k + 1)).map fun i => p ++ wd T i := by rw [bitsUpto_yes hb, List.map_append, h]; simp
theorem type_neR : ∀ i, i < 6 → [] ++ wd typeT i ≠ [] := by decide
theorem ntype_neR : ∀ i, i < 6 → nonW ++ wd typeT i ≠ [] := by decide
theorem color_neR : ∀ i, i < 5 → [] ++ wd colorT i ≠ [] := by decide
theorem ncolor_neR : ∀ i, i < 5 → nonW ++ wd colorT i ≠ [] := by decide
theorem key_neR : ∀ i, i < 17 → withW ++ wd kwT i ≠ [] := by decide
/-- A cell of a block below b holds v. -/
def At (b : Nat) (W : World) (g j : Nat) (v : Value) : Prop := g < b ∧ W.cell? ⟨g, j, none⟩ = some v
theorem At.of {W : World} {g j : Nat} {v : Value} (h : W.cell? ⟨g, j, none⟩ = some v) : At W.heap.size W g j v := ⟨World.block_lt_of_cell? W _ h, h⟩
theorem At.get {b : Nat} {W w' : World} {g j : Nat} {v : Value} (h : At b W g j v) (hb : Below b W w') : w'.cell? ⟨g, j, none⟩ = some v := cell_belowB hb h.1 h.2
theorem box_of {w w1 w2 : World} {cs : Array Value} {t : Nat} (h : Below (w.alloc (.cells cs t)).heap.size (w.alloc (.cells cs t)) w1) (hb : Below w1.heap.size w1 w2) (j : Nat) : w2.cell? ⟨w.heap.size, j, none⟩ = cs[j]? := by
  have hs := h.size; simp at hs
  rw [hb.cell (p := ⟨w.heap.size, j, none⟩) (by show w.heap.size < _; omega), kept_cells h j, cell_of_row _ _ j cs t (0, 0) (heap_alloc_new w _)]
set_option maxRecDepth 100000 in
set_option maxHeartbeats 8000000 in
theorem rText_yes (z wh se ty nt co nc : Nat) (sub : ByteArray) (ke ta pk pn tk tn vk vn : Nat) (w : World) (HV : Hid (fltIs ⟨z, wh, se, ty, nt, co, nc, sub, ke, ta, pk, pn, tk, tn, vk, vn⟩ = true))
    (hz : z ≤ 5) (hwh : wh < 3) (hse : se < 3) (hty : ty < 2 ^ 6) (hnt : nt < 2 ^ 6) (hco : co < 2 ^ 5) (hnc : nc < 2 ^ 5) (hsub : sub.size ≤ 32) (hke : ke < 2 ^ 17) (hta : ta < 3)
    (hpk : pk < 4) (hpn : pn ≤ 1000000) (htk : tk < 4) (htn : tn ≤ 1000000) (hvk : vk < 4) (hvn : vn ≤ 1000000)
    (hjl : Hid ((Lib.join (fltWords (mkFN z wh se ty nt co nc sub ke ta pk pn tk tn vk vn)) [32]).length ≤ 140737488355328)) :
    Calls Tryz.prog 44 #[.agg #[.int .i64 z, .int .i64 wh, .int .i64 se, .int .i64 ty, .int .i64 nt, .int .i64 co, .int .i64 nc, .string sub, .int .i64 ke, .int .i64 ta, .int .i64 pk, .int .i64 pn, .int .i64 tk, .int .i64 tn, .int .i64 vk, .int .i64 vn]] w fun e w' => e = .returned (.string (B (fltText (mkFN z wh se ty nt co nc sub ke ta pk pn tk tn vk vn)))) ∧ Below w.heap.size w w' := by
  have hz' : z < zoneT.length := by show z < 6; omega
  have hw' : wh < whoT.length := hwh
  have hs' : se < selfT.length := hse
  have ht' : ta < tapT.length := hta
  have HZ := Lib.hid (wd_at hz'); have HW := Lib.hid (wd_at hw'); have HS := Lib.hid (wd_at hs'); have HT := Lib.hid (wd_at ht')
  have HFT : Hid (fltText (mkFN z wh se ty nt co nc sub ke ta pk pn tk tn vk vn) = if fltWords (mkFN z wh se ty nt co nc sub ke ta pk pn tk tn vk vn) = [] then anyW else Lib.join (fltWords (mkFN z wh se ty nt co nc sub ke ta pk pn tk tn vk vn)) [32]) := rfl
  have HFW : Hid (fltWords (mkFN z wh se ty nt co nc sub ke ta pk pn tk tn vk vn) = addW (addW (addW (addW (addMask (bif L sub == [] then addMask (addMask (addMask (addMask (addW (addW (addW [] (wd zoneT z)) (wd whoT wh)) (wd selfT se)) [] typeT ty) nonW typeT nt) [] colorT co) nonW colorT nc else addW (addMask (addMask (addMask (addMask (addW (addW (addW [] (wd zoneT z)) (wd whoT wh)) (wd selfT se)) [] typeT ty) nonW typeT nt) [] colorT co) nonW colorT nc) (subW ++ L sub)) withW kwT ke) (wd tapT ta)) (boundW powerW pk pn)) (boundW toughW tk tn)) (boundW valueW vk vn)) := rfl
  generalize fltText (mkFN z wh se ty nt co nc sub ke ta pk pn tk tn vk vn) = R at *
  generalize fltWords (mkFN z wh se ty nt co nc sub ke ta pk pn tk tn vk vn) = FW at *
  go_enter Tryz.func44, Tryz.ntmps44
  go_wp2_with (first | (go_at_call 35; (with_reducible refine (rIs_any _ _ _ _ _ _ _ _ _ _ _ _ _ _ _ _ _ true HV).mono ?_); rintro e w1 ⟨rfl, hb1⟩) | (go_at_call 89; (with_reducible refine (fZones_any _).mono ?_); rintro e w2 ⟨A1, c1, rfl, ht1, hb2⟩; obtain ⟨g1, rfl, _, cz⟩ := ht1.at_ hz'; rw [HZ.out] at cz) | (go_at_call 90; (with_reducible refine (fWhos_any _).mono ?_); rintro e w3 ⟨A2, c2, rfl, ht2, hb3⟩; obtain ⟨g2, rfl, _, cw⟩ := ht2.at_ hw'; rw [HW.out] at cw; have cz := cell_below hb3 cz) | (go_at_call 91; (with_reducible refine (fSelves_any _).mono ?_); rintro e w4 ⟨A3, c3, rfl, ht3, hb4⟩; obtain ⟨g3, rfl, _, cs⟩ := ht3.at_ hs'; rw [HS.out] at cs; have cz := cell_below hb4 cz; have cw := cell_below hb4 cw) | (go_at_call 92; (with_reducible refine (fTaps_any _).mono ?_); rintro e w5 ⟨A4, c4, rfl, ht4, hb5⟩; obtain ⟨g4, rfl, _, ct⟩ := ht4.at_ ht'; rw [HT.out] at ct; have AT := At.of ct; have AZ := At.of (cell_below hb5 cz); have AW := At.of (cell_below hb5 cw); have AS := At.of (cell_below hb5 cs); have hb6 := below_two (below_two (below_two hb2 hb3) hb4) hb5; have BX := box_of hb1 hb6; have AB : Hid (∀ j v, (#[.int .i64 z, .int .i64 wh, .int .i64 se, .int .i64 ty, .int .i64 nt, .int .i64 co, .int .i64 nc, .string sub, .int .i64 ke, .int .i64 ta, .int .i64 pk, .int .i64 pn, .int .i64 tk, .int .i64 tn, .int .i64 vk, .int .i64 vn] : Array Value)[j]? = some v → At w5.heap.size w5 w.heap.size j v) := Lib.hid (fun j v h => At.of ((BX j).trans h)); have HB5 : Hid (Below w.heap.size w w5) := Lib.hid (below_two (below_two ((Below.refl _ _).alloc (Nat.le_refl _) _) hb1) hb6); have x0 := (AB.out 0 _ rfl).get (Below.refl _ _); have cz := AZ.get (Below.refl _ _); clear BX hb2 hb3 hb4 hb5 hb6 hb1 ht1 ht2 ht3 ht4 ct cw cs))
  clear cz x0
  obtain ⟨b, hb⟩ : ∃ b, w5.heap.size = b := ⟨_, rfl⟩
  rw [hb] at AT AZ AW AS AB
  have hbl : b ≤ w5.heap.size := Nat.le_of_eq hb.symm
  have HBB := Lib.hid hb
  clear hb
  refine (fAdd_any [] none 0 b (B (wd zoneT z)) (wd zoneT z) rfl w5 (Texts.nil _ _) hbl (by simp)).mono ?_
  rintro e w6 ⟨A5, c5, rfl, HO, HQ⟩
  obtain ⟨la, hla⟩ : ∃ l, addW [] (wd zoneT z) = l := ⟨_, rfl⟩
  have hll := addW_len [] (wd zoneT z)
  rw [hla] at HO hll
  rw [hla]
  have HLA := Lib.hid hla; clear hla
  simp only [List.length_nil, Nat.zero_add] at hll
  have cw := AW.get HQ
  have x1 := (AB.out 1 (.int .i64 wh) rfl).get HQ
  dsimp only
  go_wp2_with fail
  refine (fAdd_any la A5 c5 b (B (wd whoT wh)) (wd whoT wh) rfl w6 HO (Nat.le_trans hbl HQ.size) (by omega)).mono ?_
  rintro e w7 ⟨A6, c6, rfl, HO2, HQ2⟩
  have hlm := addW_len la (wd whoT wh)
  obtain ⟨lb, hlb⟩ : ∃ l, addW la (wd whoT wh) = l := ⟨_, rfl⟩
  rw [hlb] at HO2 hlm
  rw [hlb]
  have HLB := Lib.hid hlb
  have HQ := HQ.trans HQ2
  clear hlb cw x1 HO HQ2
  have cs := AS.get HQ
  have x2 := (AB.out 2 (.int .i64 se) rfl).get HQ
  dsimp only
  go_wp2_with fail
  refine (fAdd_any lb A6 c6 b (B (wd selfT se)) (wd selfT se) rfl w7 HO2 (Nat.le_trans hbl HQ.size) (by omega)).mono ?_
  rintro e w8 ⟨A7, c7, rfl, HO, HQ2⟩
  have hln := addW_len lb (wd selfT se)
  obtain ⟨l0, hl0⟩ : ∃ l, addW lb (wd selfT se) = l := ⟨_, rfl⟩
  rw [hl0] at HO hln
  rw [hl0]
  have HL0 := Lib.hid hl0
  have HQ := HQ.trans HQ2
  have hlen0 : l0.length ≤ 3 := by omega
  clear hl0 cs x2 HO2 HQ2 hll hlm hln HZ HW HS hz' hw' hs'
  dsimp only
  go_wp2_with fail
  go_loopw [7, 8] (fun v i wr => ∃ k : Nat, ∃ l : List Str, k ≤ 6 ∧ l.length ≤ 3 + k ∧ i = .int .i64 k ∧ Texts wr b l v ∧ Below b w5 wr ∧ Hid (l = l0 ++ (bitsUpto ty k).map fun i => [] ++ wd typeT i)) (fun _ i _ => 6 - (intOf i).toNat)
  case atStart => exact ⟨0, l0, by omega, by omega, rfl, HO, HQ, by simp [bitsUpto, Hid]⟩
  case round =>
    clear HQ HO
    obtain ⟨k, l1, hk, hlen, rfl, hown, hq, HL⟩ := hrel
    have hbs := Nat.le_trans hbl hq.size
    have xm := (AB.out 3 (.int .i64 ty) rfl).get hq
    by_cases hlt : k < 6
    · cases hbit : ty.testBit k
      · have HN := Lib.hid (mask_no HL.out hbit)
        have HB := Lib.hid hbit; clear hbit
        go_wp2_with (go_at_call 94; (with_reducible refine (fBit_any ty k _ (by omega) (by omega)).mono ?_); rw [HB.out]; rintro e wn ⟨rfl, rfl⟩)
        go_roundw
        case rel => exact ⟨k + 1, l1, by omega, by omega, by go_num, hown, hq, HN⟩
        case measure => simp [intOf]; omega
      · have HN := Lib.hid (mask_yes HL.out hbit)
        have HB := Lib.hid hbit; clear hbit
        have hwl : (wd typeT k).length ≤ 20 := wd_len (by decide) k
        have hln : l1.length < 1000000000 := by omega
        go_wp2_with (first | (go_at_call 94; (with_reducible refine (fBit_any ty k _ (by omega) (by omega)).mono ?_); rw [HB.out]; rintro e wn ⟨rfl, rfl⟩) | (go_at_call 95; (with_reducible refine (fTypeWord_any k hlt _).mono ?_); rintro e wn ⟨rfl, hbn⟩; have hown2 := hown.below hbn; have hq2 := hq.trans (hbn.mono hbs); have hbs2 := Nat.le_trans hbl hq2.size; clear hown hbs xm) | (at_builtin; refine wpList_text_push rfl (.tmp 49) (.tmp 52) 40 rfl Tryz.underlying40 info_str rfl rfl hown2 hln hbs2 ?_; intro v' w8 hown3 hb3))
        have hq3 := hq2.trans hb3
        rw [L_B] at hown3
        go_roundw
        case rel => exact ⟨k + 1, _, by omega, by simp; omega, by go_num, hown3, hq3, HN⟩
        case measure => simp [intOf]; omega
    · have HK : Hid (k = 6) := Lib.hid (by omega)
      have HA1 : Hid (addMask l0 [] typeT ty = l1) := Lib.hid ((addMask_eq l0 [] typeT hty (by decide) type_neR).trans (by rw [HL.out, HK.out]))
      have hlen1 : l1.length ≤ 9 := by omega
      clear HL xm hk hlen hbs HK
      have HO := hown; have HQ := hq; clear hown hq
      go_wp2_with fail
      go_loopw [7, 9] (fun v i wr => ∃ k : Nat, ∃ l : List Str, k ≤ 6 ∧ l.length ≤ 9 + k ∧ i = .int .i64 k ∧ Texts wr b l v ∧ Below b w5 wr ∧ Hid (l = l1 ++ (bitsUpto nt k).map fun i => nonW ++ wd typeT i)) (fun _ i _ => 6 - (intOf i).toNat)
      case atStart => exact ⟨0, l1, by omega, by omega, rfl, HO, HQ, by simp [bitsUpto, Hid]⟩
      case round =>
        clear HQ HO
        obtain ⟨k, l2, hk, hlen, rfl, hown, hq, HL⟩ := hrel
        have hbs := Nat.le_trans hbl hq.size
        have xm := (AB.out 4 (.int .i64 nt) rfl).get hq
        by_cases hlt : k < 6
        · cases hbit : nt.testBit k
          · have HN := Lib.hid (mask_no HL.out hbit)
            have HB := Lib.hid hbit; clear hbit
            go_wp2_with (go_at_call 94; (with_reducible refine (fBit_any nt k _ (by omega) (by omega)).mono ?_); rw [HB.out]; rintro e wn ⟨rfl, rfl⟩)
            go_roundw
            case rel => exact ⟨k + 1, l2, by omega, by omega, by go_num, hown, hq, HN⟩
            case measure => simp [intOf]; omega
          · have HN := Lib.hid (mask_yes HL.out hbit)
            have HB := Lib.hid hbit; clear hbit
            have hwl : (wd typeT k).length ≤ 20 := wd_len (by decide) k
            have hln : l2.length < 1000000000 := by omega
            have HP : Hid (L (⟨#[110, 111, 110, 45]⟩ ++ B (wd typeT k)) = nonW ++ wd typeT k) := Lib.hid (L_append _ _)
            go_wp2_with (first | (go_at_call 94; (with_reducible refine (fBit_any nt k _ (by omega) (by omega)).mono ?_); rw [HB.out]; rintro e wn ⟨rfl, rfl⟩) | (go_at_call 95; (with_reducible refine (fTypeWord_any k hlt _).mono ?_); rintro e wn ⟨rfl, hbn⟩; have hown2 := hown.below hbn; have hq2 := hq.trans (hbn.mono hbs); have hbs2 := Nat.le_trans hbl hq2.size; clear hown hbs xm) | (at_builtin; refine wpList_text_push rfl (.tmp 62) (.tmp 66) 40 rfl Tryz.underlying40 info_str rfl rfl hown2 hln hbs2 ?_; intro v' w8 hown3 hb3))
            have hq3 := hq2.trans hb3
            rw [HP.out] at hown3
            go_roundw
            case rel => exact ⟨k + 1, _, by omega, by simp; omega, by go_num, hown3, hq3, HN⟩
            case measure => simp [intOf]; omega
        · have HK : Hid (k = 6) := Lib.hid (by omega)
          have HA2 : Hid (addMask l1 nonW typeT nt = l2) := Lib.hid ((addMask_eq l1 nonW typeT hnt (by decide) ntype_neR).trans (by rw [HL.out, HK.out]))
          have hlen2 : l2.length ≤ 15 := by omega
          clear HL xm hk hlen hbs HK
          have HO := hown; have HQ := hq; clear hown hq
          go_wp2_with fail
          go_loopw [7, 10] (fun v i wr => ∃ k : Nat, ∃ l : List Str, k ≤ 5 ∧ l.length ≤ 15 + k ∧ i = .int .i64 k ∧ Texts wr b l v ∧ Below b w5 wr ∧ Hid (l = l2 ++ (bitsUpto co k).map fun i => [] ++ wd colorT i)) (fun _ i _ => 5 - (intOf i).toNat)
          case atStart => exact ⟨0, l2, by omega, by omega, rfl, HO, HQ, by simp [bitsUpto, Hid]⟩
          case round =>
            clear HQ HO
            obtain ⟨k, l3, hk, hlen, rfl, hown, hq, HL⟩ := hrel
            have hbs := Nat.le_trans hbl hq.size
            have xm := (AB.out 5 (.int .i64 co) rfl).get hq
            by_cases hlt : k < 5
            · cases hbit : co.testBit k
              · have HN := Lib.hid (mask_no HL.out hbit)
                have HB := Lib.hid hbit; clear hbit
                go_wp2_with (go_at_call 94; (with_reducible refine (fBit_any co k _ (by omega) (by omega)).mono ?_); rw [HB.out]; rintro e wn ⟨rfl, rfl⟩)
                go_roundw
                case rel => exact ⟨k + 1, l3, by omega, by omega, by go_num, hown, hq, HN⟩
                case measure => simp [intOf]; omega
              · have HN := Lib.hid (mask_yes HL.out hbit)
                have HB := Lib.hid hbit; clear hbit
                have hwl : (wd colorT k).length ≤ 20 := wd_len (by decide) k
                have hln : l3.length < 1000000000 := by omega
                go_wp2_with (first | (go_at_call 94; (with_reducible refine (fBit_any co k _ (by omega) (by omega)).mono ?_); rw [HB.out]; rintro e wn ⟨rfl, rfl⟩) | (go_at_call 86; (with_reducible refine (fColor_any k hlt _).mono ?_); rintro e wn ⟨rfl, rfl⟩; have hown2 := hown; have hq2 := hq; have hbs2 := hbs; clear hown hbs xm) | (at_builtin; refine wpList_text_push rfl (.tmp 76) (.tmp 79) 40 rfl Tryz.underlying40 info_str rfl rfl hown2 hln hbs2 ?_; intro v' w8 hown3 hb3))
                have hq3 := hq2.trans hb3
                rw [L_B] at hown3
                go_roundw
                case rel => exact ⟨k + 1, _, by omega, by simp; omega, by go_num, hown3, hq3, HN⟩
                case measure => simp [intOf]; omega
            · have HK : Hid (k = 5) := Lib.hid (by omega)
              have HA3 : Hid (addMask l2 [] colorT co = l3) := Lib.hid ((addMask_eq l2 [] colorT hco (by decide) color_neR).trans (by rw [HL.out, HK.out]))
              have hlen3 : l3.length ≤ 20 := by omega
              clear HL xm hk hlen hbs HK
              have HO := hown; have HQ := hq; clear hown hq
              go_wp2_with fail
              go_loopw [7, 11] (fun v i wr => ∃ k : Nat, ∃ l : List Str, k ≤ 5 ∧ l.length ≤ 20 + k ∧ i = .int .i64 k ∧ Texts wr b l v ∧ Below b w5 wr ∧ Hid (l = l3 ++ (bitsUpto nc k).map fun i => nonW ++ wd colorT i)) (fun _ i _ => 5 - (intOf i).toNat)
              case atStart => exact ⟨0, l3, by omega, by omega, rfl, HO, HQ, by simp [bitsUpto, Hid]⟩
              case round =>
                clear HQ HO
                obtain ⟨k, l4, hk, hlen, rfl, hown, hq, HL⟩ := hrel
                have hbs := Nat.le_trans hbl hq.size
                have xm := (AB.out 6 (.int .i64 nc) rfl).get hq
                by_cases hlt : k < 5
                · cases hbit : nc.testBit k
                  · have HN := Lib.hid (mask_no HL.out hbit)
                    have HB := Lib.hid hbit; clear hbit
                    go_wp2_with (go_at_call 94; (with_reducible refine (fBit_any nc k _ (by omega) (by omega)).mono ?_); rw [HB.out]; rintro e wn ⟨rfl, rfl⟩)
                    go_roundw
                    case rel => exact ⟨k + 1, l4, by omega, by omega, by go_num, hown, hq, HN⟩
                    case measure => simp [intOf]; omega
                  · have HN := Lib.hid (mask_yes HL.out hbit)
                    have HB := Lib.hid hbit; clear hbit
                    have hwl : (wd colorT k).length ≤ 20 := wd_len (by decide) k
                    have hln : l4.length < 1000000000 := by omega
                    have HP : Hid (L (⟨#[110, 111, 110, 45]⟩ ++ B (wd colorT k)) = nonW ++ wd colorT k) := Lib.hid (L_append _ _)
                    go_wp2_with (first | (go_at_call 94; (with_reducible refine (fBit_any nc k _ (by omega) (by omega)).mono ?_); rw [HB.out]; rintro e wn ⟨rfl, rfl⟩) | (go_at_call 86; (with_reducible refine (fColor_any k hlt _).mono ?_); rintro e wn ⟨rfl, rfl⟩; have hown2 := hown; have hq2 := hq; have hbs2 := hbs; clear hown hbs xm) | (at_builtin; refine wpList_text_push rfl (.tmp 89) (.tmp 93) 40 rfl Tryz.underlying40 info_str rfl rfl hown2 hln hbs2 ?_; intro v' w8 hown3 hb3))
                    have hq3 := hq2.trans hb3
                    rw [HP.out] at hown3
                    go_roundw
                    case rel => exact ⟨k + 1, _, by omega, by simp; omega, by go_num, hown3, hq3, HN⟩
                    case measure => simp [intOf]; omega
                · have HK : Hid (k = 5) := Lib.hid (by omega)
                  have HA4 : Hid (addMask l3 nonW colorT nc = l4) := Lib.hid ((addMask_eq l3 nonW colorT hnc (by decide) ncolor_neR).trans (by rw [HL.out, HK.out]))
                  have hlen4 : l4.length ≤ 25 := by omega
                  clear HL xm hk hlen hbs HK
                  have HO := hown; have HQ := hq; clear hown hq
                  have xs := (AB.out 7 (.string sub) rfl).get HQ
                  have hln : l4.length < 1000000000 := by omega
                  have hbs := Nat.le_trans hbl HQ.size
                  by_cases hs : L sub = []
                  · have s0 : sub.toList = [] := by rw [L_toList]; exact hs
                    obtain ⟨l5, hl5⟩ : ∃ l, l4 = l := ⟨_, rfl⟩
                    have HSB : Hid (l5 = bif L sub == [] then l4 else addW l4 (subW ++ L sub)) := Lib.hid (by rw [hs, ← hl5]; rfl)
                    rw [hl5] at HO
                    have hlen : l5.length ≤ 26 := by rw [← hl5]; omega
                    clear hs hl5
                    go_wp2_with fail
                    go_loopw [7, 12] (fun v i wr => ∃ k : Nat, ∃ l : List Str, k ≤ 17 ∧ l.length ≤ 26 + k ∧ i = .int .i64 k ∧ Texts wr b l v ∧ Below b w5 wr ∧ Hid (l = l5 ++ (bitsUpto ke k).map fun i => withW ++ wd kwT i)) (fun _ i _ => 17 - (intOf i).toNat)
                    case atStart => exact ⟨0, l5, by omega, by omega, rfl, HO, HQ, by simp [bitsUpto, Hid]⟩
                    case round =>
                      clear HQ HO
                      obtain ⟨k, l6, hk, hlen, rfl, hown, hq, HL⟩ := hrel
                      have hbs := Nat.le_trans hbl hq.size
                      have xm := (AB.out 8 (.int .i64 ke) rfl).get hq
                      by_cases hlt : k < 17
                      · cases hbit : ke.testBit k
                        · have HN := Lib.hid (mask_no HL.out hbit)
                          have HB := Lib.hid hbit; clear hbit
                          go_wp2_with (go_at_call 94; (with_reducible refine (fBit_any ke k _ (by omega) (by omega)).mono ?_); rw [HB.out]; rintro e wn ⟨rfl, rfl⟩)
                          go_roundw
                          case rel => exact ⟨k + 1, l6, by omega, by omega, by go_num, hown, hq, HN⟩
                          case measure => simp [intOf]; omega
                        · have HN := Lib.hid (mask_yes HL.out hbit)
                          have HB := Lib.hid hbit; clear hbit
                          have hwl : (wd kwT k).length ≤ 20 := wd_len (by decide) k
                          have hln : l6.length < 1000000000 := by omega
                          have HP : Hid (L (⟨#[119, 105, 116, 104, 58]⟩ ++ B (wd kwT k)) = withW ++ wd kwT k) := Lib.hid (L_append _ _)
                          go_wp2_with (first | (go_at_call 94; (with_reducible refine (fBit_any ke k _ (by omega) (by omega)).mono ?_); rw [HB.out]; rintro e wn ⟨rfl, rfl⟩) | (go_at_call 88; (with_reducible refine (fKey_any k hlt _).mono ?_); rintro e wn ⟨rfl, hbn⟩; have hown2 := hown.below hbn; have hq2 := hq.trans (hbn.mono hbs); have hbs2 := Nat.le_trans hbl hq2.size; clear hown hbs xm) | (at_builtin; refine wpList_text_push rfl (.tmp 112) (.tmp 116) 40 rfl Tryz.underlying40 info_str rfl rfl hown2 hln hbs2 ?_; intro v' w8 hown3 hb3))
                          have hq3 := hq2.trans hb3
                          rw [HP.out] at hown3
                          go_roundw
                          case rel => exact ⟨k + 1, _, by omega, by simp; omega, by go_num, hown3, hq3, HN⟩
                          case measure => simp [intOf]; omega
                      · have HK : Hid (k = 17) := Lib.hid (by omega)
                        have HA5 : Hid (addMask l5 withW kwT ke = l6) := Lib.hid ((addMask_eq l5 withW kwT hke (by decide) key_neR).trans (by rw [HL.out, HK.out]))
                        have hlen5 : l6.length ≤ 43 := by omega
                        clear HL xm hk hlen hbs HK
                        have HO := hown; have HQ := hq; clear hown hq
                        have ct := AT.get HQ
                        have x9 := (AB.out 9 (.int .i64 ta) rfl).get HQ
                        obtain ⟨A8, c8, rfl, _⟩ := HO.form
                        go_wp2_with fail
                        refine (fAdd_any l6 A8 c8 b (B (wd tapT ta)) (wd tapT ta) rfl _ HO (Nat.le_trans hbl HQ.size) (by omega)).mono ?_
                        rintro e wa ⟨A9, c9, rfl, HO2, HQ2⟩
                        have hlm := addW_len l6 (wd tapT ta)
                        obtain ⟨m0, hm0⟩ : ∃ l, addW l6 (wd tapT ta) = l := ⟨_, rfl⟩
                        rw [hm0] at HO2 hlm
                        rw [hm0]
                        have HM0 := Lib.hid hm0
                        have HQ := HQ.trans HQ2
                        have hm0l : m0.length ≤ 44 := by omega
                        clear hm0 ct x9 HO HQ2 hlm HT ht'
                        dsimp only
                        have x10 := (AB.out 10 (.int .i64 pk) rfl).get HQ
                        have x11 := (AB.out 11 (.int .i64 pn) rfl).get HQ
                        go_wp2_with fail
                        refine (fBoundW_any ⟨#[112, 111, 119, 101, 114]⟩ powerW rfl pk pn hpk hpn (by decide) _).mono ?_
                        rintro e wb0 ⟨rfl, hbb⟩
                        have HO3 := HO2.below hbb
                        have HQ := HQ.trans (hbb.mono (Nat.le_trans hbl HQ.size))
                        clear x10 x11 HO2 hbb
                        dsimp only
                        go_wp2_with fail
                        refine (fAdd_any m0 A9 c9 b (B (boundW powerW pk pn)) (boundW powerW pk pn) rfl _ HO3 (Nat.le_trans hbl HQ.size) (by omega)).mono ?_
                        rintro e wd0 ⟨A10, c10, rfl, HO2, HQ2⟩
                        have hlm := addW_len m0 (boundW powerW pk pn)
                        obtain ⟨m1, hm1⟩ : ∃ l, addW m0 (boundW powerW pk pn) = l := ⟨_, rfl⟩
                        rw [hm1] at HO2 hlm
                        rw [hm1]
                        have HM1 := Lib.hid hm1
                        have HQ := HQ.trans HQ2
                        have hm1l : m1.length ≤ 45 := by omega
                        clear hm1 HO3 HQ2 hlm
                        dsimp only
                        have x12 := (AB.out 12 (.int .i64 tk) rfl).get HQ
                        have x13 := (AB.out 13 (.int .i64 tn) rfl).get HQ
                        go_wp2_with fail
                        refine (fBoundW_any ⟨#[116, 111, 117, 103, 104]⟩ toughW rfl tk tn htk htn (by decide) _).mono ?_
                        rintro e wb1 ⟨rfl, hbb⟩
                        have HO3 := HO2.below hbb
                        have HQ := HQ.trans (hbb.mono (Nat.le_trans hbl HQ.size))
                        clear x12 x13 HO2 hbb
                        dsimp only
                        go_wp2_with fail
                        refine (fAdd_any m1 A10 c10 b (B (boundW toughW tk tn)) (boundW toughW tk tn) rfl _ HO3 (Nat.le_trans hbl HQ.size) (by omega)).mono ?_
                        rintro e wd1 ⟨A11, c11, rfl, HO2, HQ2⟩
                        have hlm := addW_len m1 (boundW toughW tk tn)
                        obtain ⟨m2, hm2⟩ : ∃ l, addW m1 (boundW toughW tk tn) = l := ⟨_, rfl⟩
                        rw [hm2] at HO2 hlm
                        rw [hm2]
                        have HM2 := Lib.hid hm2
                        have HQ := HQ.trans HQ2
                        have hm2l : m2.length ≤ 46 := by omega
                        clear hm2 HO3 HQ2 hlm
                        dsimp only
                        have x14 := (AB.out 14 (.int .i64 vk) rfl).get HQ
                        have x15 := (AB.out 15 (.int .i64 vn) rfl).get HQ
                        go_wp2_with fail
                        refine (fBoundW_any ⟨#[118, 97, 108, 117, 101]⟩ valueW rfl vk vn hvk hvn (by decide) _).mono ?_
                        rintro e wb2 ⟨rfl, hbb⟩
                        have HO3 := HO2.below hbb
                        have HQ := HQ.trans (hbb.mono (Nat.le_trans hbl HQ.size))
                        clear x14 x15 HO2 hbb
                        dsimp only
                        go_wp2_with fail
                        refine (fAdd_any m2 A11 c11 b (B (boundW valueW vk vn)) (boundW valueW vk vn) rfl _ HO3 (Nat.le_trans hbl HQ.size) (by omega)).mono ?_
                        rintro e wd2 ⟨A12, c12, rfl, HO2, HQ2⟩
                        have hlm := addW_len m2 (boundW valueW vk vn)
                        obtain ⟨m3, hm3⟩ : ∃ l, addW m2 (boundW valueW vk vn) = l := ⟨_, rfl⟩
                        rw [hm3] at HO2 hlm
                        rw [hm3]
                        have HM3 := Lib.hid hm3
                        have HQ := HQ.trans HQ2
                        have hm3l : m3.length ≤ 47 := by omega
                        clear hm3 HO3 HQ2 hlm
                        dsimp only
                        have HFE : Hid (FW = m3) := Lib.hid (by rw [HFW.out, HLA.out, HLB.out, HL0.out, HA1.out, HA2.out, HA3.out, HA4.out, ← HSB.out, HA5.out, HM0.out, HM1.out, HM2.out, HM3.out])
                        have HFI := HB5.out.trans (HQ.mono (by have h1 := HB5.out.size; have h2 := HBB.out; omega))
                        by_cases hm : m3 = []
                        · have HR : Hid (R = anyW) := Lib.hid (by rw [HFT.out, HFE.out, if_pos hm])
                          have t0 := eqn m3.length 0 (by rw [hm]; rfl)
                          clear hm
                          go_wp2
                          go_ret
                          exact ⟨ret_str (by rw [HR.out]; rfl), HFI⟩
                        · have HR : Hid (R = Lib.join m3 [32]) := Lib.hid (by rw [HFT.out, HFE.out, if_neg hm])
                          have t0 := nen m3.length 0 (by intro h; exact hm (List.eq_nil_of_length_eq_zero (by omega)))
                          have hj : (Lib.join m3 [32]).length ≤ 140737488355328 := by rw [← HFE.out]; exact hjl.out
                          have HJ := Lib.hid hj
                          clear hm hj
                          go_wp2_with (go_at_call 97; (with_reducible refine (rJoin_any m3 A12 c12 b _ _ HO2 [32] rfl HJ.out (by omega)).mono ?_); rintro e wz ⟨rfl, rfl⟩)
                          go_ret
                          exact ⟨ret_str (by rw [HR.out]), HFI⟩
                  · have s0 : sub.toList.isEmpty = false := by rw [L_toList]; simpa using hs
                    have s1 : ¬ sub.toList = [] := by rw [L_toList]; exact hs
                    obtain ⟨l5, hl5⟩ : ∃ l, l4 ++ [subW ++ L sub] = l := ⟨_, rfl⟩
                    have HSB : Hid (l5 = bif L sub == [] then l4 else addW l4 (subW ++ L sub)) := Lib.hid (by rw [beq_eq_false_iff_ne.2 hs, ← hl5]; show _ = addW l4 _; rw [addW, if_neg (by simp [subW])])
                    have HP : Hid (L (⟨#[115, 117, 98, 58]⟩ ++ sub) = subW ++ L sub) := Lib.hid (L_append _ _)
                    have hlen : l5.length ≤ 26 := by rw [← hl5, List.length_append]; simp; omega
                    have HL5 := Lib.hid hl5
                    clear hs hl5
                    go_wp2_with (at_builtin; refine wpList_text_push rfl (.tmp 98) (.tmp 102) 40 rfl Tryz.underlying40 info_str rfl rfl HO hln hbs ?_; intro v' w8 hown3 hb3)
                    rw [HP.out, HL5.out] at hown3
                    have hq3 := HQ.trans hb3
                    clear HO HQ HL5
                    have HO := hown3; have HQ := hq3; clear hown3 hq3
                    go_loopw [7, 12] (fun v i wr => ∃ k : Nat, ∃ l : List Str, k ≤ 17 ∧ l.length ≤ 26 + k ∧ i = .int .i64 k ∧ Texts wr b l v ∧ Below b w5 wr ∧ Hid (l = l5 ++ (bitsUpto ke k).map fun i => withW ++ wd kwT i)) (fun _ i _ => 17 - (intOf i).toNat)
                    case atStart => exact ⟨0, l5, by omega, by omega, rfl, HO, HQ, by simp [bitsUpto, Hid]⟩
                    case round =>
                      clear HQ HO
                      obtain ⟨k, l6, hk, hlen, rfl, hown, hq, HL⟩ := hrel
                      have hbs := Nat.le_trans hbl hq.size
                      have xm := (AB.out 8 (.int .i64 ke) rfl).get hq
                      by_cases hlt : k < 17
                      · cases hbit : ke.testBit k
                        · have HN := Lib.hid (mask_no HL.out hbit)
                          have HB := Lib.hid hbit; clear hbit
                          go_wp2_with (go_at_call 94; (with_reducible refine (fBit_any ke k _ (by omega) (by omega)).mono ?_); rw [HB.out]; rintro e wn ⟨rfl, rfl⟩)
                          go_roundw
                          case rel => exact ⟨k + 1, l6, by omega, by omega, by go_num, hown, hq, HN⟩
                          case measure => simp [intOf]; omega
                        · have HN := Lib.hid (mask_yes HL.out hbit)
                          have HB := Lib.hid hbit; clear hbit
                          have hwl : (wd kwT k).length ≤ 20 := wd_len (by decide) k
                          have hln : l6.length < 1000000000 := by omega
                          have HP : Hid (L (⟨#[119, 105, 116, 104, 58]⟩ ++ B (wd kwT k)) = withW ++ wd kwT k) := Lib.hid (L_append _ _)
                          go_wp2_with (first | (go_at_call 94; (with_reducible refine (fBit_any ke k _ (by omega) (by omega)).mono ?_); rw [HB.out]; rintro e wn ⟨rfl, rfl⟩) | (go_at_call 88; (with_reducible refine (fKey_any k hlt _).mono ?_); rintro e wn ⟨rfl, hbn⟩; have hown2 := hown.below hbn; have hq2 := hq.trans (hbn.mono hbs); have hbs2 := Nat.le_trans hbl hq2.size; clear hown hbs xm) | (at_builtin; refine wpList_text_push rfl (.tmp 112) (.tmp 116) 40 rfl Tryz.underlying40 info_str rfl rfl hown2 hln hbs2 ?_; intro v' w8 hown3 hb3))
                          have hq3 := hq2.trans hb3
                          rw [HP.out] at hown3
                          go_roundw
                          case rel => exact ⟨k + 1, _, by omega, by simp; omega, by go_num, hown3, hq3, HN⟩
                          case measure => simp [intOf]; omega
                      · have HK : Hid (k = 17) := Lib.hid (by omega)
                        have HA5 : Hid (addMask l5 withW kwT ke = l6) := Lib.hid ((addMask_eq l5 withW kwT hke (by decide) key_neR).trans (by rw [HL.out, HK.out]))
                        have hlen5 : l6.length ≤ 43 := by omega
                        clear HL xm hk hlen hbs HK
                        have HO := hown; have HQ := hq; clear hown hq
                        have ct := AT.get HQ
                        have x9 := (AB.out 9 (.int .i64 ta) rfl).get HQ
                        obtain ⟨A8, c8, rfl, _⟩ := HO.form
                        go_wp2_with fail
                        refine (fAdd_any l6 A8 c8 b (B (wd tapT ta)) (wd tapT ta) rfl _ HO (Nat.le_trans hbl HQ.size) (by omega)).mono ?_
                        rintro e wa ⟨A9, c9, rfl, HO2, HQ2⟩
                        have hlm := addW_len l6 (wd tapT ta)
                        obtain ⟨m0, hm0⟩ : ∃ l, addW l6 (wd tapT ta) = l := ⟨_, rfl⟩
                        rw [hm0] at HO2 hlm
                        rw [hm0]
                        have HM0 := Lib.hid hm0
                        have HQ := HQ.trans HQ2
                        have hm0l : m0.length ≤ 44 := by omega
                        clear hm0 ct x9 HO HQ2 hlm HT ht'
                        dsimp only
                        have x10 := (AB.out 10 (.int .i64 pk) rfl).get HQ
                        have x11 := (AB.out 11 (.int .i64 pn) rfl).get HQ
                        go_wp2_with fail
                        refine (fBoundW_any ⟨#[112, 111, 119, 101, 114]⟩ powerW rfl pk pn hpk hpn (by decide) _).mono ?_
                        rintro e wb0 ⟨rfl, hbb⟩
                        have HO3 := HO2.below hbb
                        have HQ := HQ.trans (hbb.mono (Nat.le_trans hbl HQ.size))
                        clear x10 x11 HO2 hbb
                        dsimp only
                        go_wp2_with fail
                        refine (fAdd_any m0 A9 c9 b (B (boundW powerW pk pn)) (boundW powerW pk pn) rfl _ HO3 (Nat.le_trans hbl HQ.size) (by omega)).mono ?_
                        rintro e wd0 ⟨A10, c10, rfl, HO2, HQ2⟩
                        have hlm := addW_len m0 (boundW powerW pk pn)
                        obtain ⟨m1, hm1⟩ : ∃ l, addW m0 (boundW powerW pk pn) = l := ⟨_, rfl⟩
                        rw [hm1] at HO2 hlm
                        rw [hm1]
                        have HM1 := Lib.hid hm1
                        have HQ := HQ.trans HQ2
                        have hm1l : m1.length ≤ 45 := by omega
                        clear hm1 HO3 HQ2 hlm
                        dsimp only
                        have x12 := (AB.out 12 (.int .i64 tk) rfl).get HQ
                        have x13 := (AB.out 13 (.int .i64 tn) rfl).get HQ
                        go_wp2_with fail
                        refine (fBoundW_any ⟨#[116, 111, 117, 103, 104]⟩ toughW rfl tk tn htk htn (by decide) _).mono ?_
                        rintro e wb1 ⟨rfl, hbb⟩
                        have HO3 := HO2.below hbb
                        have HQ := HQ.trans (hbb.mono (Nat.le_trans hbl HQ.size))
                        clear x12 x13 HO2 hbb
                        dsimp only
                        go_wp2_with fail
                        refine (fAdd_any m1 A10 c10 b (B (boundW toughW tk tn)) (boundW toughW tk tn) rfl _ HO3 (Nat.le_trans hbl HQ.size) (by omega)).mono ?_
                        rintro e wd1 ⟨A11, c11, rfl, HO2, HQ2⟩
                        have hlm := addW_len m1 (boundW toughW tk tn)
                        obtain ⟨m2, hm2⟩ : ∃ l, addW m1 (boundW toughW tk tn) = l := ⟨_, rfl⟩
                        rw [hm2] at HO2 hlm
                        rw [hm2]
                        have HM2 := Lib.hid hm2
                        have HQ := HQ.trans HQ2
                        have hm2l : m2.length ≤ 46 := by omega
                        clear hm2 HO3 HQ2 hlm
                        dsimp only
                        have x14 := (AB.out 14 (.int .i64 vk) rfl).get HQ
                        have x15 := (AB.out 15 (.int .i64 vn) rfl).get HQ
                        go_wp2_with fail
                        refine (fBoundW_any ⟨#[118, 97, 108, 117, 101]⟩ valueW rfl vk vn hvk hvn (by decide) _).mono ?_
                        rintro e wb2 ⟨rfl, hbb⟩
                        have HO3 := HO2.below hbb
                        have HQ := HQ.trans (hbb.mono (Nat.le_trans hbl HQ.size))
                        clear x14 x15 HO2 hbb
                        dsimp only
                        go_wp2_with fail
                        refine (fAdd_any m2 A11 c11 b (B (boundW valueW vk vn)) (boundW valueW vk vn) rfl _ HO3 (Nat.le_trans hbl HQ.size) (by omega)).mono ?_
                        rintro e wd2 ⟨A12, c12, rfl, HO2, HQ2⟩
                        have hlm := addW_len m2 (boundW valueW vk vn)
                        obtain ⟨m3, hm3⟩ : ∃ l, addW m2 (boundW valueW vk vn) = l := ⟨_, rfl⟩
                        rw [hm3] at HO2 hlm
                        rw [hm3]
                        have HM3 := Lib.hid hm3
                        have HQ := HQ.trans HQ2
                        have hm3l : m3.length ≤ 47 := by omega
                        clear hm3 HO3 HQ2 hlm
                        dsimp only
                        have HFE : Hid (FW = m3) := Lib.hid (by rw [HFW.out, HLA.out, HLB.out, HL0.out, HA1.out, HA2.out, HA3.out, HA4.out, ← HSB.out, HA5.out, HM0.out, HM1.out, HM2.out, HM3.out])
                        have HFI := HB5.out.trans (HQ.mono (by have h1 := HB5.out.size; have h2 := HBB.out; omega))
                        by_cases hm : m3 = []
                        · have HR : Hid (R = anyW) := Lib.hid (by rw [HFT.out, HFE.out, if_pos hm])
                          have t0 := eqn m3.length 0 (by rw [hm]; rfl)
                          clear hm
                          go_wp2
                          go_ret
                          exact ⟨ret_str (by rw [HR.out]; rfl), HFI⟩
                        · have HR : Hid (R = Lib.join m3 [32]) := Lib.hid (by rw [HFT.out, HFE.out, if_neg hm])
                          have t0 := nen m3.length 0 (by intro h; exact hm (List.eq_nil_of_length_eq_zero (by omega)))
                          have hj : (Lib.join m3 [32]).length ≤ 140737488355328 := by rw [← HFE.out]; exact hjl.out
                          have HJ := Lib.hid hj
                          clear hm hj
                          go_wp2_with (go_at_call 97; (with_reducible refine (rJoin_any m3 A12 c12 b _ _ HO2 [32] rfl HJ.out (by omega)).mono ?_); rintro e wz ⟨rfl, rfl⟩)
                          go_ret
                          exact ⟨ret_str (by rw [HR.out]), HFI⟩
end Go.Proofs.YtakgfbcmkhcdkaaGreatDoor
namespace Go.Proofs.YtakgfbcmkhcdkaaGreatDoor
set_option linter.all false
open Go.ChangeShapes Go.WideShapes Go.RowKit
set_option maxRecDepth 100000 in
theorem rText_no (zone who self types ntypes colors ncolors : Int) (sub : ByteArray) (keys tap pk pn tk tn vk vn : Int) (w : World) (HV : Hid (fltIs ⟨zone, who, self, types, ntypes, colors, ncolors, sub, keys, tap, pk, pn, tk, tn, vk, vn⟩ = false)) :
    Calls Tryz.prog 44 #[.agg #[.int .i64 zone, .int .i64 who, .int .i64 self, .int .i64 types, .int .i64 ntypes, .int .i64 colors, .int .i64 ncolors, .string sub, .int .i64 keys, .int .i64 tap, .int .i64 pk, .int .i64 pn, .int .i64 tk, .int .i64 tn, .int .i64 vk, .int .i64 vn]] w fun e w' => e = .returned (.string ⟨#[]⟩) ∧ Below w.heap.size w w' := by
  go_enter Tryz.func44, Tryz.ntmps44
  go_wp2_with (go_at_call 35; (with_reducible refine (rIs_any _ _ _ _ _ _ _ _ _ _ _ _ _ _ _ _ _ false HV).mono ?_); rintro e w1 ⟨rfl, hb1⟩)
  go_ret
  exact ⟨rfl, below_two ((Below.refl _ _).alloc (Nat.le_refl _) _) hb1⟩
theorem rFltText_any (f : Flt) (w : World) :
    Calls Tryz.prog 44 #[.agg f.cells] w fun e w' => e = .returned (.string (B (textOf f))) ∧ Below w.heap.size w w' := by
  obtain ⟨zone, who, self, types, ntypes, colors, ncolors, sub, keys, tap, pk, pn, tk, tn, vk, vn⟩ := f
  cases hv : fltIs ⟨zone, who, self, types, ntypes, colors, ncolors, sub, keys, tap, pk, pn, tk, tn, vk, vn⟩ with
  | false =>
    refine (rText_no _ _ _ _ _ _ _ _ _ _ _ _ _ _ _ _ w (Lib.hid hv)).mono fun e w' ⟨he, hb⟩ => ⟨?_, hb⟩
    rw [he, textOf, hv]; rfl
  | true =>
    have hv2 := hv
    simp only [fltIs, okMasks, Bool.and_eq_true, Bool.or_eq_true, beq_iff_eq] at hv2
    obtain ⟨⟨g1, g2, g3, g4, g5⟩, ⟨g6, g7, g8⟩, ⟨g9, g10, g11⟩, g12, g13, g14, g15⟩ := hv2
    obtain ⟨z, rfl, hz⟩ := btw_nat g1
    obtain ⟨wh, rfl, hwh⟩ := btw_nat g2
    obtain ⟨se, rfl, hse⟩ := btw_nat g3
    obtain ⟨ta, rfl, hta⟩ := btw_nat g4
    obtain ⟨ke, rfl, hke⟩ := btw_nat g5
    obtain ⟨ty, rfl, hty⟩ := btw_nat g6
    obtain ⟨nt, rfl, hnt⟩ := btw_nat g7
    obtain ⟨co, rfl, hco⟩ := btw_nat g9
    obtain ⟨nc, rfl, hnc⟩ := btw_nat g10
    obtain ⟨pk, pn, rfl, rfl, hpk, hpn⟩ := bnd_nat g13
    obtain ⟨tk, tn, rfl, rfl, htk, htn⟩ := bnd_nat g14
    obtain ⟨vk, vn, rfl, rfl, hvk, hvn⟩ := bnd_nat g15
    have hsub : sub.size ≤ 32 := by
      rw [← size_l]
      rcases g12 with h | h
      · rw [h]; simp
      · exact isSub_len h
    have hj := fltJoin_len (mkFN z wh se ty nt co nc sub ke ta pk pn tk tn vk vn) (by show (L sub).length ≤ 32; rw [size_l]; exact hsub) hpn htn hvn
    refine (rText_yes z wh se ty nt co nc sub ke ta pk pn tk tn vk vn w (Lib.hid hv) (by omega) (by omega) (by omega) (by omega) (by omega) (by omega) (by omega) hsub (by omega) (by omega) hpk hpn htk htn hvk hvn (Lib.hid (by omega))).mono fun e w' ⟨he, hb⟩ => ⟨?_, hb⟩
    rw [he, textOf, hv]; rfl
end Go.Proofs.YtakgfbcmkhcdkaaGreatDoor
