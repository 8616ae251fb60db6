/- Walks: the reference of chapter 19: try. Conditions: LaidM; the text is shorter than ten million bytes. Walks: the reference of chapter 19: Parse. Conditions: LaidM; the text is shorter than ten million bytes. -/
import Derived.Test.YtlgelkbniogekaaGreatDoorMIRText
import Derived.Test.YtlgelkbniogekaaGreatDoorMIMid
import Derived.Test.YtlgelkbniogekaaGreatDoorMIParseF
namespace Go.Proofs.YtlgelkbniogekaaGreatDoor
set_option linter.all false
open Go.ChangeShapes Go.WideShapes Go.RowKit
attribute [local irreducible] wpList Code.wp Calls
theorem St.tail {L : World → Prop} {w0 w : World} {x : Row} {rows : List Row} (h : St L w0 (x :: rows) w) : St L w0 rows w :=
  ⟨h.base, h.keeps, h.below, fun y hy => h.has y (.tail _ hy), by have := h.apart; simp only [List.map_cons, List.nodup_cons] at this; exact this.2⟩
def tryRet (o : Option Rp) : Value := match o with | some x => .tuple #[.agg x.cells, .bool true] | none => .tuple #[.agg zeroI.cells, .bool false]
def hitI (s : Str) (r : Rp) (k n : Nat) : Prop := rpIs (candI s r k n) = true ∧ rpText (candI s r k n) = s
def tryOk (s : Str) (r : Rp) (o : Option Rp) : Prop := match o with | some x => rpIs x = true ∧ rpText x = s | none => ∀ k n, k < 8 → n < 2 → ¬ hitI s r k n
def TryP (s : Str) (r : Rp) (w : World) (e : Ending) (w' : World) : Prop := ∃ o, e = .returned (tryRet o) ∧ tryOk s r o ∧ Below w.heap.size w w'
theorem i19Text_iz (r : Rp) (T : Str) (h : Hid (rpText r = T)) (w : World) (hl : LaidM w) : Calls Tryz.prog 13 #[.agg r.cells] w fun e w' => e = .returned (.string (B T)) ∧ Below w.heap.size w w' :=
  (i19Text_any r w hl).mono fun e w' h' => ⟨by rw [h'.1, h.out], h'.2⟩
theorem i19LastB (s : Str) (hs : s.length < 10000000) (w : World) : Calls Tryz.prog 79 #[.string (B s)] w fun e w' => e = .returned (.int .i64 (lastN s)) ∧ Below w.heap.size w w' := by
  have := i19Last_any (B s) (by rw [B_size]; exact hs) w
  rwa [L_B] at this
set_option maxRecDepth 100000 in
set_option maxHeartbeats 4000000 in
theorem i19Try_any (s : Str) (hs : s.length < 10000000) (on who : Int) (f : Flt) (d : Int) (w0 : World) (hl : LaidM w0) :
    Calls Tryz.prog 40 #[.string (B s), .agg (Rp.cells ⟨on, who, f, d, 0, 0, 0⟩)] w0 (TryP s ⟨on, who, f, d, 0, 0, 0⟩ w0) := by
  have hS := St.start hl keepsM
  go_enter Tryz.func40, Tryz.ntmps40
  go_wp2_with (first | ((with_reducible refine at_box ?_); (first | (refine wpList_box_agg rfl hS rfl rfl ?_; intro g w hS)); (try simp only [Act.put, List.setIfInBounds_toArray, List.set_cons_zero, List.set_cons_succ])) | ((with_reducible refine at_alloc ?_); (first | (refine wpList_new 27 rfl hS rfl _ rp_new ?_; intro g w hS)); (try simp only [Act.put, List.setIfInBounds_toArray, List.set_cons_zero, List.set_cons_succ])))
  rename_i g3 wq hSq K1 hK1
  clear hSq
  generalize g = g4 at *
  go_loopw [6] (fun kv wr => ∃ k : Nat, k ≤ 8 ∧ kv = .int .i64 k ∧ Hid (St LaidM w0 [(g4, zeroI.cells, TRp), (g3, Rp.cells ⟨on, who, f, d, 0, 0, 0⟩, TRp)] wr) ∧ Hid (∀ k' n : Nat, k' < k → n < 2 → ¬ hitI s ⟨on, who, f, d, 0, 0, 0⟩ k' n)) (fun kv _ => 8 - (intOf kv).toNat)
  case atStart => exact ⟨0, by omega, rfl, Lib.hid hS, Lib.hid (fun k n h => by omega)⟩
  case round =>
    clear hS
    obtain ⟨k, hk, rfl, HS, HM⟩ := hrel
    have hS := HS.out
    clear HS
    by_cases hlt : k < 8
    · by_cases hk3 : k < 3
      all_goals
        go_wp2_with (first | ((with_reducible refine at_alloc ?_); (first | (refine wpList_new 27 rfl hS rfl _ rp_new ?_; intro g w hS)); (try simp only [Act.put, List.setIfInBounds_toArray, List.set_cons_zero, List.set_cons_succ])) | ((with_reducible refine at_load ?_); (first | (refine rp_ldw rfl hS rfl rfl (by (first | exact .head | exact .tail .head | exact .tail (.tail .head) | exact .tail (.tail (.tail .head)) | exact .tail (.tail (.tail (.tail .head))) | fail)) ?_)); (try simp only [Act.put, List.setIfInBounds_toArray, List.set_cons_zero, List.set_cons_succ])) | ((with_reducible refine at_store ?_); (first | (refine rp_stw rfl hS rfl rfl rfl (by first | exact .head | exact .tail .head | exact .tail (.tail .head) | exact .tail (.tail (.tail .head)) | exact .tail (.tail (.tail (.tail .head))) | fail) ?_; intro w hS) | (refine rp_st20 rfl hS rfl rfl rfl (by first | exact .head | exact .tail .head | exact .tail (.tail .head) | exact .tail (.tail (.tail .head)) | exact .tail (.tail (.tail (.tail .head))) | fail) ?_; intro w hS) | (refine rp_st21 rfl hS rfl rfl rfl (by first | exact .head | exact .tail .head | exact .tail (.tail .head) | exact .tail (.tail (.tail .head)) | exact .tail (.tail (.tail (.tail .head))) | fail) ?_; intro w hS)); (try simp only [Act.put, List.setIfInBounds_toArray, List.set_cons_zero, List.set_cons_succ])))
      · obtain ⟨Z, C, HX, HC⟩ : ∃ Z C : Int, Hid (St LaidM w0 [(g, Rp.cells ⟨on, who, f, d, 0, Z, C⟩, TRp), (g4, zeroI.cells, TRp), (g3, Rp.cells ⟨on, who, f, d, 0, 0, 0⟩, TRp)] w) ∧ Hid (∀ n, candI s ⟨on, who, f, d, 0, 0, 0⟩ k n = ⟨on, who, f, d, if n = 0 then 0 else lastN s, Z, C⟩) :=
          ⟨0, k, Lib.hid hS, Lib.hid (fun n => by unfold candI; rw [if_pos hk3, if_pos hk3])⟩
        clear hS
        generalize g = g7 at *
        go_loopw [8] (fun nv wr => ∃ n : Nat, ∃ N : Int, n ≤ 2 ∧ nv = .int .i64 n ∧ Hid (St LaidM w0 [(g7, Rp.cells ⟨on, who, f, d, N, Z, C⟩, TRp), (g4, zeroI.cells, TRp), (g3, Rp.cells ⟨on, who, f, d, 0, 0, 0⟩, TRp)] wr) ∧ Hid (∀ n' : Nat, n' < n → ¬ hitI s ⟨on, who, f, d, 0, 0, 0⟩ k n')) (fun nv _ => 2 - (intOf nv).toNat)
        case atStart => exact ⟨0, 0, by omega, rfl, HX, Lib.hid (fun n h => by omega)⟩
        case round =>
          clear HX
          obtain ⟨n, N, hn, rfl, HS, HJ⟩ := hrel
          have hS := HS.out
          clear HS
          by_cases hn2 : n < 2
          · obtain ⟨V, t0, HV⟩ : ∃ V : Int, ((V = 0 ∧ ((n : Int) == 0) = true) ∨ (V = lastN s ∧ ((n : Int) == 0) = false)) ∧ Hid (candI s ⟨on, who, f, d, 0, 0, 0⟩ k n = ⟨on, who, f, d, V, Z, C⟩) := by
              by_cases h0 : n = 0
              · exact ⟨0, .inl ⟨rfl, by simp [h0]⟩, Lib.hid (by rw [HC.out, if_pos h0])⟩
              · exact ⟨lastN s, .inr ⟨rfl, by simpa using h0⟩, Lib.hid (by rw [HC.out, if_neg h0])⟩
            obtain ⟨I, hI⟩ : ∃ I, I = rpIs ⟨on, who, f, d, V, Z, C⟩ := ⟨_, rfl⟩
            obtain ⟨T, hT⟩ : ∃ T, rpText ⟨on, who, f, d, V, Z, C⟩ = T := ⟨_, rfl⟩
            have HI := Lib.hid hI
            have HT := Lib.hid hT
            clear hI hT
            cases I with
            | false =>
              have HJ2 : Hid (∀ n' : Nat, n' < n + 1 → ¬ hitI s ⟨on, who, f, d, 0, 0, 0⟩ k n') := Lib.hid (fun n' h => by
                rcases Nat.lt_or_ge n' n with h' | h'
                · exact HJ.out n' h'
                · obtain rfl : n' = n := by omega
                  unfold hitI; rw [HV.out, ← HI.out]; exact fun h => by cases h.1)
              clear HJ HV
              rcases t0 with ⟨rfl, t0⟩ | ⟨rfl, t0⟩
              all_goals
                go_wp2_with (first | (go_at_call 79; (with_reducible refine (St.call hS fun hl => i19LastB _ hs _).mono ?_); rintro e w ⟨rfl, hS⟩) | (go_at_call 11; (with_reducible refine (St.call hS fun hl => i19Is_is _ _ HI _ hl).mono ?_); rintro e w ⟨rfl, hS⟩) | ((with_reducible refine at_guard ?_); (first | (refine wpList_pass rfl ?_)); (try simp only [Act.put, List.setIfInBounds_toArray, List.set_cons_zero, List.set_cons_succ])) | ((with_reducible refine at_load ?_); (first | (refine rp_ldw rfl hS rfl rfl (by (first | exact .head | exact .tail .head | exact .tail (.tail .head) | exact .tail (.tail (.tail .head)) | exact .tail (.tail (.tail (.tail .head))) | fail)) ?_)); (try simp only [Act.put, List.setIfInBounds_toArray, List.set_cons_zero, List.set_cons_succ])) | ((with_reducible refine at_store ?_); (first | (refine rp_st19 rfl hS rfl rfl rfl (by first | exact .head | exact .tail .head | exact .tail (.tail .head) | exact .tail (.tail (.tail .head)) | exact .tail (.tail (.tail (.tail .head))) | fail) ?_; intro w hS)); (try simp only [Act.put, List.setIfInBounds_toArray, List.set_cons_zero, List.set_cons_succ])))
                go_roundw
                case rel => exact ⟨n + 1, _, by omega, by go_num, Lib.hid hS, HJ2⟩
                case measure => simp [intOf]; omega
            | true =>
              by_cases hx : T = s
              · subst hx
                have HF : Hid (rpIs ⟨on, who, f, d, V, Z, C⟩ = true ∧ rpText ⟨on, who, f, d, V, Z, C⟩ = T) := Lib.hid ⟨HI.out.symm, HT.out⟩
                clear HJ HV
                rcases t0 with ⟨rfl, t0⟩ | ⟨rfl, t0⟩
                all_goals
                  go_wp2_with (first | (go_at_call 79; (with_reducible refine (St.call hS fun hl => i19LastB _ hs _).mono ?_); rintro e w ⟨rfl, hS⟩) | (go_at_call 11; (with_reducible refine (St.call hS fun hl => i19Is_is _ _ HI _ hl).mono ?_); rintro e w ⟨rfl, hS⟩) | (go_at_call 13; (with_reducible refine (St.call hS fun hl => i19Text_iz _ _ HT _ hl).mono ?_); rintro e w ⟨rfl, hS⟩) | ((with_reducible refine at_load ?_); (first | (refine rp_ldw rfl hS rfl rfl (by (first | exact .head | exact .tail .head | exact .tail (.tail .head) | exact .tail (.tail (.tail .head)) | exact .tail (.tail (.tail (.tail .head))) | fail)) ?_)); (try simp only [Act.put, List.setIfInBounds_toArray, List.set_cons_zero, List.set_cons_succ])) | ((with_reducible refine at_store ?_); (first | (refine rp_stw rfl hS rfl rfl rfl (by first | exact .head | exact .tail .head | exact .tail (.tail .head) | exact .tail (.tail (.tail .head)) | exact .tail (.tail (.tail (.tail .head))) | fail) ?_; intro w hS) | (refine rp_st19 rfl hS rfl rfl rfl (by first | exact .head | exact .tail .head | exact .tail (.tail .head) | exact .tail (.tail (.tail .head)) | exact .tail (.tail (.tail (.tail .head))) | fail) ?_; intro w hS)); (try simp only [Act.put, List.setIfInBounds_toArray, List.set_cons_zero, List.set_cons_succ])))
                all_goals (refine rp_res2 hS rfl rfl (by (first | exact .head | exact .tail .head | exact .tail (.tail .head) | exact .tail (.tail (.tail .head)) | exact .tail (.tail (.tail (.tail .head))) | fail)) rfl rfl (fun hb => ⟨some _, rfl, HF.out, hb⟩))
              · have hx' : (T == s) = false := by simpa using hx
                have HJ2 : Hid (∀ n' : Nat, n' < n + 1 → ¬ hitI s ⟨on, who, f, d, 0, 0, 0⟩ k n') := Lib.hid (fun n' h => by
                  rcases Nat.lt_or_ge n' n with h' | h'
                  · exact HJ.out n' h'
                  · obtain rfl : n' = n := by omega
                    unfold hitI; rw [HV.out, HT.out]; exact fun h => hx h.2)
                clear HJ HV
                rcases t0 with ⟨rfl, t0⟩ | ⟨rfl, t0⟩
                all_goals
                  go_wp2_with (first | (go_at_call 79; (with_reducible refine (St.call hS fun hl => i19LastB _ hs _).mono ?_); rintro e w ⟨rfl, hS⟩) | (go_at_call 11; (with_reducible refine (St.call hS fun hl => i19Is_is _ _ HI _ hl).mono ?_); rintro e w ⟨rfl, hS⟩) | (go_at_call 13; (with_reducible refine (St.call hS fun hl => i19Text_iz _ _ HT _ hl).mono ?_); rintro e w ⟨rfl, hS⟩) | ((with_reducible refine at_load ?_); (first | (refine rp_ldw rfl hS rfl rfl (by (first | exact .head | exact .tail .head | exact .tail (.tail .head) | exact .tail (.tail (.tail .head)) | exact .tail (.tail (.tail (.tail .head))) | fail)) ?_)); (try simp only [Act.put, List.setIfInBounds_toArray, List.set_cons_zero, List.set_cons_succ])) | ((with_reducible refine at_store ?_); (first | (refine rp_st19 rfl hS rfl rfl rfl (by first | exact .head | exact .tail .head | exact .tail (.tail .head) | exact .tail (.tail (.tail .head)) | exact .tail (.tail (.tail (.tail .head))) | fail) ?_; intro w hS)); (try simp only [Act.put, List.setIfInBounds_toArray, List.set_cons_zero, List.set_cons_succ])))
                  go_roundw
                  case rel => exact ⟨n + 1, _, by omega, by go_num, Lib.hid hS, HJ2⟩
                  case measure => simp [intOf]; omega
          · have HM2 : Hid (∀ k' n : Nat, k' < k + 1 → n < 2 → ¬ hitI s ⟨on, who, f, d, 0, 0, 0⟩ k' n) := Lib.hid (fun k' n' h h2 => by
              rcases Nat.lt_or_ge k' k with h' | h'
              · exact HM.out k' n' h' h2
              · obtain rfl : k' = k := by omega
                exact HJ.out n' (by omega))
            clear HM HJ
            go_wp2_with (first | fail)
            go_roundw
            case rel => exact ⟨k + 1, by omega, by go_num, Lib.hid hS.tail, HM2⟩
            case measure => simp [intOf]; omega
      · obtain ⟨Z, C, HX, HC⟩ : ∃ Z C : Int, Hid (St LaidM w0 [(g, Rp.cells ⟨on, who, f, d, 0, Z, C⟩, TRp), (g4, zeroI.cells, TRp), (g3, Rp.cells ⟨on, who, f, d, 0, 0, 0⟩, TRp)] w) ∧ Hid (∀ n, candI s ⟨on, who, f, d, 0, 0, 0⟩ k n = ⟨on, who, f, d, if n = 0 then 0 else lastN s, Z, C⟩) :=
          ⟨k - 3, 0, Lib.hid hS, Lib.hid (fun n => by unfold candI; rw [if_neg hk3, if_neg hk3])⟩
        clear hS
        generalize g = g7 at *
        go_loopw [8] (fun nv wr => ∃ n : Nat, ∃ N : Int, n ≤ 2 ∧ nv = .int .i64 n ∧ Hid (St LaidM w0 [(g7, Rp.cells ⟨on, who, f, d, N, Z, C⟩, TRp), (g4, zeroI.cells, TRp), (g3, Rp.cells ⟨on, who, f, d, 0, 0, 0⟩, TRp)] wr) ∧ Hid (∀ n' : Nat, n' < n → ¬ hitI s ⟨on, who, f, d, 0, 0, 0⟩ k n')) (fun nv _ => 2 - (intOf nv).toNat)
        case atStart => exact ⟨0, 0, by omega, rfl, HX, Lib.hid (fun n h => by omega)⟩
        case round =>
          clear HX
          obtain ⟨n, N, hn, rfl, HS, HJ⟩ := hrel
          have hS := HS.out
          clear HS
          by_cases hn2 : n < 2
          · obtain ⟨V, t0, HV⟩ : ∃ V : Int, ((V = 0 ∧ ((n : Int) == 0) = true) ∨ (V = lastN s ∧ ((n : Int) == 0) = false)) ∧ Hid (candI s ⟨on, who, f, d, 0, 0, 0⟩ k n = ⟨on, who, f, d, V, Z, C⟩) := by
              by_cases h0 : n = 0
              · exact ⟨0, .inl ⟨rfl, by simp [h0]⟩, Lib.hid (by rw [HC.out, if_pos h0])⟩
              · exact ⟨lastN s, .inr ⟨rfl, by simpa using h0⟩, Lib.hid (by rw [HC.out, if_neg h0])⟩
            obtain ⟨I, hI⟩ : ∃ I, I = rpIs ⟨on, who, f, d, V, Z, C⟩ := ⟨_, rfl⟩
            obtain ⟨T, hT⟩ : ∃ T, rpText ⟨on, who, f, d, V, Z, C⟩ = T := ⟨_, rfl⟩
            have HI := Lib.hid hI
            have HT := Lib.hid hT
            clear hI hT
            cases I with
            | false =>
              have HJ2 : Hid (∀ n' : Nat, n' < n + 1 → ¬ hitI s ⟨on, who, f, d, 0, 0, 0⟩ k n') := Lib.hid (fun n' h => by
                rcases Nat.lt_or_ge n' n with h' | h'
                · exact HJ.out n' h'
                · obtain rfl : n' = n := by omega
                  unfold hitI; rw [HV.out, ← HI.out]; exact fun h => by cases h.1)
              clear HJ HV
              rcases t0 with ⟨rfl, t0⟩ | ⟨rfl, t0⟩
              all_goals
                go_wp2_with (first | (go_at_call 79; (with_reducible refine (St.call hS fun hl => i19LastB _ hs _).mono ?_); rintro e w ⟨rfl, hS⟩) | (go_at_call 11; (with_reducible refine (St.call hS fun hl => i19Is_is _ _ HI _ hl).mono ?_); rintro e w ⟨rfl, hS⟩) | ((with_reducible refine at_guard ?_); (first | (refine wpList_pass rfl ?_)); (try simp only [Act.put, List.setIfInBounds_toArray, List.set_cons_zero, List.set_cons_succ])) | ((with_reducible refine at_load ?_); (first | (refine rp_ldw rfl hS rfl rfl (by (first | exact .head | exact .tail .head | exact .tail (.tail .head) | exact .tail (.tail (.tail .head)) | exact .tail (.tail (.tail (.tail .head))) | fail)) ?_)); (try simp only [Act.put, List.setIfInBounds_toArray, List.set_cons_zero, List.set_cons_succ])) | ((with_reducible refine at_store ?_); (first | (refine rp_st19 rfl hS rfl rfl rfl (by first | exact .head | exact .tail .head | exact .tail (.tail .head) | exact .tail (.tail (.tail .head)) | exact .tail (.tail (.tail (.tail .head))) | fail) ?_; intro w hS)); (try simp only [Act.put, List.setIfInBounds_toArray, List.set_cons_zero, List.set_cons_succ])))
                go_roundw
                case rel => exact ⟨n + 1, _, by omega, by go_num, Lib.hid hS, HJ2⟩
                case measure => simp [intOf]; omega
            | true =>
              by_cases hx : T = s
              · subst hx
                have HF : Hid (rpIs ⟨on, who, f, d, V, Z, C⟩ = true ∧ rpText ⟨on, who, f, d, V, Z, C⟩ = T) := Lib.hid ⟨HI.out.symm, HT.out⟩
                clear HJ HV
                rcases t0 with ⟨rfl, t0⟩ | ⟨rfl, t0⟩
                all_goals
                  go_wp2_with (first | (go_at_call 79; (with_reducible refine (St.call hS fun hl => i19LastB _ hs _).mono ?_); rintro e w ⟨rfl, hS⟩) | (go_at_call 11; (with_reducible refine (St.call hS fun hl => i19Is_is _ _ HI _ hl).mono ?_); rintro e w ⟨rfl, hS⟩) | (go_at_call 13; (with_reducible refine (St.call hS fun hl => i19Text_iz _ _ HT _ hl).mono ?_); rintro e w ⟨rfl, hS⟩) | ((with_reducible refine at_load ?_); (first | (refine rp_ldw rfl hS rfl rfl (by (first | exact .head | exact .tail .head | exact .tail (.tail .head) | exact .tail (.tail (.tail .head)) | exact .tail (.tail (.tail (.tail .head))) | fail)) ?_)); (try simp only [Act.put, List.setIfInBounds_toArray, List.set_cons_zero, List.set_cons_succ])) | ((with_reducible refine at_store ?_); (first | (refine rp_stw rfl hS rfl rfl rfl (by first | exact .head | exact .tail .head | exact .tail (.tail .head) | exact .tail (.tail (.tail .head)) | exact .tail (.tail (.tail (.tail .head))) | fail) ?_; intro w hS) | (refine rp_st19 rfl hS rfl rfl rfl (by first | exact .head | exact .tail .head | exact .tail (.tail .head) | exact .tail (.tail (.tail .head)) | exact .tail (.tail (.tail (.tail .head))) | fail) ?_; intro w hS)); (try simp only [Act.put, List.setIfInBounds_toArray, List.set_cons_zero, List.set_cons_succ])))
                all_goals (refine rp_res2 hS rfl rfl (by (first | exact .head | exact .tail .head | exact .tail (.tail .head) | exact .tail (.tail (.tail .head)) | exact .tail (.tail (.tail (.tail .head))) | fail)) rfl rfl (fun hb => ⟨some _, rfl, HF.out, hb⟩))
              · have hx' : (T == s) = false := by simpa using hx
                have HJ2 : Hid (∀ n' : Nat, n' < n + 1 → ¬ hitI s ⟨on, who, f, d, 0, 0, 0⟩ k n') := Lib.hid (fun n' h => by
                  rcases Nat.lt_or_ge n' n with h' | h'
                  · exact HJ.out n' h'
                  · obtain rfl : n' = n := by omega
                    unfold hitI; rw [HV.out, HT.out]; exact fun h => hx h.2)
                clear HJ HV
                rcases t0 with ⟨rfl, t0⟩ | ⟨rfl, t0⟩
                all_goals
                  go_wp2_with (first | (go_at_call 79; (with_reducible refine (St.call hS fun hl => i19LastB _ hs _).mono ?_); rintro e w ⟨rfl, hS⟩) | (go_at_call 11; (with_reducible refine (St.call hS fun hl => i19Is_is _ _ HI _ hl).mono ?_); rintro e w ⟨rfl, hS⟩) | (go_at_call 13; (with_reducible refine (St.call hS fun hl => i19Text_iz _ _ HT _ hl).mono ?_); rintro e w ⟨rfl, hS⟩) | ((with_reducible refine at_load ?_); (first | (refine rp_ldw rfl hS rfl rfl (by (first | exact .head | exact .tail .head | exact .tail (.tail .head) | exact .tail (.tail (.tail .head)) | exact .tail (.tail (.tail (.tail .head))) | fail)) ?_)); (try simp only [Act.put, List.setIfInBounds_toArray, List.set_cons_zero, List.set_cons_succ])) | ((with_reducible refine at_store ?_); (first | (refine rp_st19 rfl hS rfl rfl rfl (by first | exact .head | exact .tail .head | exact .tail (.tail .head) | exact .tail (.tail (.tail .head)) | exact .tail (.tail (.tail (.tail .head))) | fail) ?_; intro w hS)); (try simp only [Act.put, List.setIfInBounds_toArray, List.set_cons_zero, List.set_cons_succ])))
                  go_roundw
                  case rel => exact ⟨n + 1, _, by omega, by go_num, Lib.hid hS, HJ2⟩
                  case measure => simp [intOf]; omega
          · have HM2 : Hid (∀ k' n : Nat, k' < k + 1 → n < 2 → ¬ hitI s ⟨on, who, f, d, 0, 0, 0⟩ k' n) := Lib.hid (fun k' n' h h2 => by
              rcases Nat.lt_or_ge k' k with h' | h'
              · exact HM.out k' n' h' h2
              · obtain rfl : k' = k := by omega
                exact HJ.out n' (by omega))
            clear HM HJ
            go_wp2_with (first | fail)
            go_roundw
            case rel => exact ⟨k + 1, by omega, by go_num, Lib.hid hS.tail, HM2⟩
            case measure => simp [intOf]; omega
    · have HN : Hid (∀ k' n : Nat, k' < 8 → n < 2 → ¬ hitI s ⟨on, who, f, d, 0, 0, 0⟩ k' n) := Lib.hid (fun k' n h h2 => HM.out k' n (by omega) h2)
      go_wp2_with (first | ((with_reducible refine rp_shape_ ?_); refine rp_bld_ rfl ?_; (try simp only [Act.put, List.setIfInBounds_toArray, List.set_cons_zero, List.set_cons_succ])) | ((with_reducible refine at_store ?_); (first | (refine rp_stw rfl hS rfl rfl rfl (by first | exact .head | exact .tail .head | exact .tail (.tail .head) | exact .tail (.tail (.tail .head)) | exact .tail (.tail (.tail (.tail .head))) | fail) ?_; intro w hS)); (try simp only [Act.put, List.setIfInBounds_toArray, List.set_cons_zero, List.set_cons_succ])))
      all_goals (refine rp_res2 hS rfl rfl (by (first | exact .head | exact .tail .head | exact .tail (.tail .head) | exact .tail (.tail (.tail .head)) | exact .tail (.tail (.tail (.tail .head))) | fail)) rfl rfl (fun hb => ⟨none, rfl, HN.out, hb⟩))
end Go.Proofs.YtlgelkbniogekaaGreatDoor
namespace Go.Proofs.YtlgelkbniogekaaGreatDoor
set_option linter.all false
open Go.ChangeShapes Go.WideShapes Go.RowKit
attribute [local irreducible] wpList Code.wp Calls
theorem i19MidB (s : Str) (hs : s.length < 10000000) (w : World) : Calls Tryz.prog 39 #[.string (B s)] w fun e w' => e = .returned (.string (B (middleS s))) ∧ w = w' := by
  have := i19Middle_any (B s) (by rw [B_size]; omega) w
  rwa [L_B] at this
theorem r13ParseB (x : Str) (hx : x.length < 100000000) (G : Flt) (c : Int) (h : Hid (fltRet (parseS x) = .tuple #[.agg G.cells, .int .i64 c])) (w : World) : Calls Tryz.prog 38 #[.string (B x)] w fun e w' => e = .returned (.tuple #[.agg G.cells, .int .i64 c]) ∧ Below w.heap.size w w' :=
  (rParse_any (B x) w (by rw [B_size]; exact hx)).mono fun e w' ⟨he, hb⟩ => ⟨he.trans (by rw [L_B, qParse_eq, h.out]), hb⟩
theorem i19Try_z (s : Str) (hs : s.length < 10000000) (on who d : Int) (w0 : World) (hl : LaidM w0) :
    Calls Tryz.prog 40 #[.string (B s), .agg (Rp.cells ⟨on, who, zeroI.f, d, zeroI.n, zeroI.z, zeroI.c⟩)] w0 (TryP s ⟨on, who, zeroF, d, 0, 0, 0⟩ w0) := i19Try_any s hs on who zeroF d w0 hl
theorem i19Try_f (s : Str) (hs : s.length < 10000000) (on who d : Int) (f : Flt) (w0 : World) (hl : LaidM w0) :
    Calls Tryz.prog 40 #[.string (B s), .agg (Rp.cells ⟨on, who, f, d, zeroI.n, zeroI.z, zeroI.c⟩)] w0 (TryP s ⟨on, who, f, d, 0, 0, 0⟩ w0) := i19Try_any s hs on who f d w0 hl
theorem middleS_len (s : Str) : (middleS s).length ≤ s.length := by
  unfold middleS tailP
  split
  · have h1 := (List.takeWhile_sublist (fun c : UInt8 => !(c == 41)) (l := s.dropWhile fun c => !(c == 40))).length_le
    have h2 := (List.dropWhile_sublist (fun c : UInt8 => !(c == 40)) (l := s)).length_le
    rw [List.length_drop]; omega
  · simp
def missI (s : Str) (o d w : Nat) : Prop := ∀ f, (f = zeroF ∨ f = fOf s) → ∀ k n, k < 8 → n < 2 → ¬ hitI s ⟨o, w, f, d, 0, 0, 0⟩ k n
theorem miss_all {s : Str} {R : Option Rp} (hR : rpParse s = R) (h : ∀ o : Nat, 1 ≤ o → o < 18 → ∀ d : Nat, 1 ≤ d → d < 9 → ∀ w : Nat, w < 3 → missI s o d w) : R = none := by
  rw [← hR]
  refine rpParse_miss fun on d who o1 o2 d1 d2 w1 w2 f hf k n hk hn => ?_
  obtain ⟨o, rfl⟩ : ∃ o : Nat, on = o := ⟨on.toNat, by omega⟩
  obtain ⟨d, rfl⟩ : ∃ o : Nat, d = o := ⟨d.toNat, by omega⟩
  obtain ⟨w, rfl⟩ : ∃ o : Nat, who = o := ⟨who.toNat, by omega⟩
  exact h o (by omega) (by omega) d (by omega) (by omega) w (by omega) f hf k n hk hn
theorem hit_one {s : Str} {R : Option Rp} (hR : rpParse s = R) {x : Rp} {r : Rp} (h : tryOk s r (some x)) : R = some x := by
  rw [← hR]; exact rpParse_hit h.1 h.2
set_option maxRecDepth 100000 in
set_option maxHeartbeats 8000000 in
theorem i19Parse_any (s : Str) (hs : s.length < 10000000) (w0 : World) (hl : LaidM w0) :
    Calls Tryz.prog 15 #[.string (B s)] w0 fun e w' => e = .returned (rpRet (rpParse s)) ∧ Below w0.heap.size w0 w' := by
  obtain ⟨R, hR⟩ : ∃ R, rpParse s = R := ⟨_, rfl⟩
  rw [hR]
  have HR := Lib.hid hR
  clear hR
  have hml := middleS_len s
  obtain ⟨G, c, F, HG, hF, HF⟩ : ∃ (G : Flt) (c : Int) (F : Flt), Hid (fltRet (parseS (middleS s)) = .tuple #[.agg G.cells, .int .i64 c]) ∧ ((G = F ∧ c = 0) ∨ (F = zeroF ∧ c = 3)) ∧ Hid (fOf s = F) := by
    unfold fOf
    cases parseS (middleS s) with
    | some f => exact ⟨f, 0, f, Lib.hid rfl, .inl ⟨rfl, rfl⟩, Lib.hid rfl⟩
    | none => exact ⟨zeroF, 3, zeroF, Lib.hid rfl, .inr ⟨rfl, rfl⟩, Lib.hid rfl⟩
  rcases hF with ⟨rfl, rfl⟩ | ⟨rfl, rfl⟩
  · have hS := St.start hl keepsM
    go_enter Tryz.func15, Tryz.ntmps15
    go_wp2_with (first | (go_at_call 39; (with_reducible refine (St.still hS fun hl => i19MidB _ hs _).mono ?_); rintro e w ⟨rfl, hS⟩) | (go_at_call 38; (with_reducible refine (St.call hS fun hl => r13ParseB _ (by omega) _ _ HG _).mono ?_); rintro e w ⟨rfl, hS⟩) | ((with_reducible refine at_alloc ?_); (first | (refine wpList_new 27 rfl hS rfl _ rp_new ?_; intro g w hS) | (refine wpList_new 25 rfl hS rfl _ flt_new ?_; intro g w hS)); (try simp only [Act.put, List.setIfInBounds_toArray, List.set_cons_zero, List.set_cons_succ])) | ((with_reducible refine at_store ?_); (first | (refine flt_stw rfl hS rfl rfl rfl (by first | exact .head | exact .tail .head | exact .tail (.tail .head) | exact .tail (.tail (.tail .head)) | exact .tail (.tail (.tail (.tail .head))) | fail) ?_; intro w hS)); (try simp only [Act.put, List.setIfInBounds_toArray, List.set_cons_zero, List.set_cons_succ])))
    obtain ⟨rows, hrows, hS⟩ : ∃ rows, rows = [(g, Flt.cells G, TF), (_, zeroI.cells, TRp)] ∧ St LaidM w0 rows w := ⟨_, rfl, hS⟩
    have HRW := Lib.hid hrows
    clear hrows
    go_loopw [6] (fun ov wr => ∃ o : Nat, 1 ≤ o ∧ o ≤ 18 ∧ ov = .int .i64 o ∧ Hid (St LaidM w0 rows wr) ∧ Hid (∀ o' : Nat, 1 ≤ o' → o' < o → ∀ d : Nat, 1 ≤ d → d < 9 → ∀ w : Nat, w < 3 → missI s o' d w)) (fun ov _ => 18 - (intOf ov).toNat)
    case atStart => exact ⟨1, by omega, by omega, rfl, Lib.hid hS, Lib.hid (fun o' h1 h2 => by omega)⟩
    case round =>
      clear hS
      obtain ⟨o, ho1, ho2, rfl, HS, HM1⟩ := hrel
      have hS := HS.out
      rw [HRW.out] at hS
      clear HS
      by_cases hlt : o ≤ 17
      · have hlti : (o : Int) ≤ 17 := by omega
        go_wp2_with (first | fail)
        go_loopw [7] (fun dv wr => ∃ d : Nat, 1 ≤ d ∧ d ≤ 9 ∧ dv = .int .i64 d ∧ Hid (St LaidM w0 rows wr) ∧ Hid (∀ d' : Nat, 1 ≤ d' → d' < d → ∀ w : Nat, w < 3 → missI s o d' w)) (fun dv _ => 9 - (intOf dv).toNat)
        case atStart => exact ⟨1, by omega, by omega, rfl, Lib.hid (by rw [HRW.out]; exact hS), Lib.hid (fun d' h1 h2 => by omega)⟩
        case round =>
          clear hS
          obtain ⟨d, hd1, hd2, rfl, HS, HM2⟩ := hrel
          have hS := HS.out
          rw [HRW.out] at hS
          clear HS
          by_cases hltd : d ≤ 8
          · have hltdi : (d : Int) ≤ 8 := by omega
            go_wp2_with (first | fail)
            go_loopw [8] (fun wv wr => ∃ q : Nat, q ≤ 3 ∧ wv = .int .i64 q ∧ Hid (St LaidM w0 rows wr) ∧ Hid (∀ q' : Nat, q' < q → missI s o d q')) (fun wv _ => 3 - (intOf wv).toNat)
            case atStart => exact ⟨0, by omega, rfl, Lib.hid (by rw [HRW.out]; exact hS), Lib.hid (fun d' h1 => by omega)⟩
            case round =>
              clear hS
              obtain ⟨q, hq, rfl, HS, HM3⟩ := hrel
              have hS := HS.out
              rw [HRW.out] at hS
              clear HS
              by_cases hltq : q ≤ 2
              · have hltqi : (q : Int) ≤ 2 := by omega
                go_wp2_with (first | (go_at_call 40; (with_reducible refine (i19Try_z s hs _ _ _ _ hS.laid).mono ?_); rintro e w ⟨o2, rfl, hz, hb⟩; have hS := hS.mono hb; clear hb; rcases o2 with _ | x <;> simp only [tryRet]) | (go_at_call 40; (with_reducible refine (i19Try_f s hs _ _ _ _ _ hS.laid).mono ?_); rintro e w ⟨o2, rfl, hf2, hb⟩; have hS := hS.mono hb; clear hb; rcases o2 with _ | x <;> simp only [tryRet]) | ((with_reducible refine at_alloc ?_); (first | (refine wpList_new 27 rfl hS rfl _ rp_new ?_; intro g w hS)); (try simp only [Act.put, List.setIfInBounds_toArray, List.set_cons_zero, List.set_cons_succ])) | ((with_reducible refine rp_shape_0_3_1 ?_); refine rp_bld_0_3_1 rfl rfl rfl rfl ?_; (try simp only [Act.put, List.setIfInBounds_toArray, List.set_cons_zero, List.set_cons_succ])) | ((with_reducible refine rp_shape_0_3_1_2 ?_); refine rp_bld_0_3_1_2 rfl rfl rfl rfl rfl ?_; (try simp only [Act.put, List.setIfInBounds_toArray, List.set_cons_zero, List.set_cons_succ])) | ((with_reducible refine at_load ?_); (first | (refine rp_ldw rfl hS rfl rfl (by (first | exact .head | exact .tail .head | exact .tail (.tail .head) | exact .tail (.tail (.tail .head)) | exact .tail (.tail (.tail (.tail .head))) | fail)) ?_) | (refine flt_ldw rfl hS rfl rfl (by (first | exact .head | exact .tail .head | exact .tail (.tail .head) | exact .tail (.tail (.tail .head)) | exact .tail (.tail (.tail (.tail .head))) | fail)) ?_)); (try simp only [Act.put, List.setIfInBounds_toArray, List.set_cons_zero, List.set_cons_succ])) | ((with_reducible refine at_store ?_); (first | (refine rp_stw rfl hS rfl rfl rfl (by first | exact .head | exact .tail .head | exact .tail (.tail .head) | exact .tail (.tail (.tail .head)) | exact .tail (.tail (.tail (.tail .head))) | fail) ?_; intro w hS)); (try simp only [Act.put, List.setIfInBounds_toArray, List.set_cons_zero, List.set_cons_succ])))
                · go_roundw
                  case rel => exact ⟨q + 1, by omega, by go_num, Lib.hid (by rw [HRW.out]; exact hS.tail), Lib.hid (fun q' h => by
                    rcases Nat.lt_or_ge q' q with h' | h'
                    · exact HM3.out q' h'
                    · obtain rfl : q' = q := by omega
                      intro f hf
                      rw [HF.out] at hf
                      rcases hf with rfl | rfl
                      · exact hz
                      · exact hf2)⟩
                  case measure => simp [intOf]; omega
                · refine rp_res2 hS rfl rfl (by (first | exact .head | exact .tail .head | exact .tail (.tail .head) | exact .tail (.tail (.tail .head)) | exact .tail (.tail (.tail (.tail .head))) | fail)) rfl rfl (fun hb => ⟨by rw [hit_one HR.out hf2]; rfl, hb⟩)
                · refine rp_res2 hS rfl rfl (by (first | exact .head | exact .tail .head | exact .tail (.tail .head) | exact .tail (.tail (.tail .head)) | exact .tail (.tail (.tail (.tail .head))) | fail)) rfl rfl (fun hb => ⟨by rw [hit_one HR.out hz]; rfl, hb⟩)
              · have HM4 : Hid (∀ d' : Nat, 1 ≤ d' → d' < d + 1 → ∀ w : Nat, w < 3 → missI s o d' w) := Lib.hid (fun d' h1 h2 w hw => by
                  rcases Nat.lt_or_ge d' d with h' | h'
                  · exact HM2.out d' h1 h' w hw
                  · obtain rfl : d' = d := by omega
                    exact HM3.out w (by omega))
                clear HM2 HM3
                go_wp2_with (first | fail)
                go_roundw
                case rel => exact ⟨d + 1, by omega, by omega, by go_num, Lib.hid (by rw [HRW.out]; exact hS), HM4⟩
                case measure => simp [intOf]; omega
          · have HM4 : Hid (∀ o' : Nat, 1 ≤ o' → o' < o + 1 → ∀ d : Nat, 1 ≤ d → d < 9 → ∀ w : Nat, w < 3 → missI s o' d w) := Lib.hid (fun o' h1 h2 d' hd1 hd2 w hw => by
              rcases Nat.lt_or_ge o' o with h' | h'
              · exact HM1.out o' h1 h' d' hd1 hd2 w hw
              · obtain rfl : o' = o := by omega
                exact HM2.out d' hd1 (by omega) w hw)
            clear HM1 HM2
            go_wp2_with (first | fail)
            go_roundw
            case rel => exact ⟨o + 1, by omega, by omega, by go_num, Lib.hid (by rw [HRW.out]; exact hS), HM4⟩
            case measure => simp [intOf]; omega
      · have HN : Hid (R = none) := Lib.hid (miss_all HR.out (fun o' h1 h2 => HM1.out o' h1 (by omega)))
        clear HM1
        go_wp2_with (first | ((with_reducible refine rp_shape_ ?_); refine rp_bld_ rfl ?_; (try simp only [Act.put, List.setIfInBounds_toArray, List.set_cons_zero, List.set_cons_succ])) | ((with_reducible refine at_store ?_); (first | (refine rp_stw rfl hS rfl rfl rfl (by first | exact .head | exact .tail .head | exact .tail (.tail .head) | exact .tail (.tail (.tail .head)) | exact .tail (.tail (.tail (.tail .head))) | fail) ?_; intro w hS)); (try simp only [Act.put, List.setIfInBounds_toArray, List.set_cons_zero, List.set_cons_succ])))
        all_goals (refine rp_res2 hS rfl rfl (by (first | exact .head | exact .tail .head | exact .tail (.tail .head) | exact .tail (.tail (.tail .head)) | exact .tail (.tail (.tail (.tail .head))) | fail)) rfl rfl (fun hb => ⟨by rw [HN.out]; rfl, hb⟩))
  · have hS := St.start hl keepsM
    go_enter Tryz.func15, Tryz.ntmps15
    go_wp2_with (first | (go_at_call 39; (with_reducible refine (St.still hS fun hl => i19MidB _ hs _).mono ?_); rintro e w ⟨rfl, hS⟩) | (go_at_call 38; (with_reducible refine (St.call hS fun hl => r13ParseB _ (by omega) _ _ HG _).mono ?_); rintro e w ⟨rfl, hS⟩) | ((with_reducible refine at_alloc ?_); (first | (refine wpList_new 27 rfl hS rfl _ rp_new ?_; intro g w hS) | (refine wpList_new 25 rfl hS rfl _ flt_new ?_; intro g w hS)); (try simp only [Act.put, List.setIfInBounds_toArray, List.set_cons_zero, List.set_cons_succ])) | ((with_reducible refine flt_shape_ ?_); refine flt_bld_ rfl ?_; (try simp only [Act.put, List.setIfInBounds_toArray, List.set_cons_zero, List.set_cons_succ])) | ((with_reducible refine at_store ?_); (first | (refine flt_stw rfl hS rfl rfl rfl (by first | exact .head | exact .tail .head | exact .tail (.tail .head) | exact .tail (.tail (.tail .head)) | exact .tail (.tail (.tail (.tail .head))) | fail) ?_; intro w hS)); (try simp only [Act.put, List.setIfInBounds_toArray, List.set_cons_zero, List.set_cons_succ])))
    obtain ⟨rows, hrows, hS⟩ : ∃ rows, rows = [(g, Flt.cells zeroF, TF), (_, zeroI.cells, TRp)] ∧ St LaidM w0 rows w := ⟨_, rfl, hS⟩
    have HRW := Lib.hid hrows
    clear hrows
    go_loopw [6] (fun ov wr => ∃ o : Nat, 1 ≤ o ∧ o ≤ 18 ∧ ov = .int .i64 o ∧ Hid (St LaidM w0 rows wr) ∧ Hid (∀ o' : Nat, 1 ≤ o' → o' < o → ∀ d : Nat, 1 ≤ d → d < 9 → ∀ w : Nat, w < 3 → missI s o' d w)) (fun ov _ => 18 - (intOf ov).toNat)
    case atStart => exact ⟨1, by omega, by omega, rfl, Lib.hid hS, Lib.hid (fun o' h1 h2 => by omega)⟩
    case round =>
      clear hS
      obtain ⟨o, ho1, ho2, rfl, HS, HM1⟩ := hrel
      have hS := HS.out
      rw [HRW.out] at hS
      clear HS
      by_cases hlt : o ≤ 17
      · have hlti : (o : Int) ≤ 17 := by omega
        go_wp2_with (first | fail)
        go_loopw [7] (fun dv wr => ∃ d : Nat, 1 ≤ d ∧ d ≤ 9 ∧ dv = .int .i64 d ∧ Hid (St LaidM w0 rows wr) ∧ Hid (∀ d' : Nat, 1 ≤ d' → d' < d → ∀ w : Nat, w < 3 → missI s o d' w)) (fun dv _ => 9 - (intOf dv).toNat)
        case atStart => exact ⟨1, by omega, by omega, rfl, Lib.hid (by rw [HRW.out]; exact hS), Lib.hid (fun d' h1 h2 => by omega)⟩
        case round =>
          clear hS
          obtain ⟨d, hd1, hd2, rfl, HS, HM2⟩ := hrel
          have hS := HS.out
          rw [HRW.out] at hS
          clear HS
          by_cases hltd : d ≤ 8
          · have hltdi : (d : Int) ≤ 8 := by omega
            go_wp2_with (first | fail)
            go_loopw [8] (fun wv wr => ∃ q : Nat, q ≤ 3 ∧ wv = .int .i64 q ∧ Hid (St LaidM w0 rows wr) ∧ Hid (∀ q' : Nat, q' < q → missI s o d q')) (fun wv _ => 3 - (intOf wv).toNat)
            case atStart => exact ⟨0, by omega, rfl, Lib.hid (by rw [HRW.out]; exact hS), Lib.hid (fun d' h1 => by omega)⟩
            case round =>
              clear hS
              obtain ⟨q, hq, rfl, HS, HM3⟩ := hrel
              have hS := HS.out
              rw [HRW.out] at hS
              clear HS
              by_cases hltq : q ≤ 2
              · have hltqi : (q : Int) ≤ 2 := by omega
                go_wp2_with (first | (go_at_call 40; (with_reducible refine (i19Try_z s hs _ _ _ _ hS.laid).mono ?_); rintro e w ⟨o2, rfl, hz, hb⟩; have hS := hS.mono hb; clear hb; rcases o2 with _ | x <;> simp only [tryRet]) | (go_at_call 40; (with_reducible refine (i19Try_f s hs _ _ _ _ _ hS.laid).mono ?_); rintro e w ⟨o2, rfl, hf2, hb⟩; have hS := hS.mono hb; clear hb; rcases o2 with _ | x <;> simp only [tryRet]) | ((with_reducible refine at_alloc ?_); (first | (refine wpList_new 27 rfl hS rfl _ rp_new ?_; intro g w hS)); (try simp only [Act.put, List.setIfInBounds_toArray, List.set_cons_zero, List.set_cons_succ])) | ((with_reducible refine rp_shape_0_3_1 ?_); refine rp_bld_0_3_1 rfl rfl rfl rfl ?_; (try simp only [Act.put, List.setIfInBounds_toArray, List.set_cons_zero, List.set_cons_succ])) | ((with_reducible refine rp_shape_0_3_1_2 ?_); refine rp_bld_0_3_1_2 rfl rfl rfl rfl rfl ?_; (try simp only [Act.put, List.setIfInBounds_toArray, List.set_cons_zero, List.set_cons_succ])) | ((with_reducible refine at_load ?_); (first | (refine rp_ldw rfl hS rfl rfl (by (first | exact .head | exact .tail .head | exact .tail (.tail .head) | exact .tail (.tail (.tail .head)) | exact .tail (.tail (.tail (.tail .head))) | fail)) ?_) | (refine flt_ldw rfl hS rfl rfl (by (first | exact .head | exact .tail .head | exact .tail (.tail .head) | exact .tail (.tail (.tail .head)) | exact .tail (.tail (.tail (.tail .head))) | fail)) ?_)); (try simp only [Act.put, List.setIfInBounds_toArray, List.set_cons_zero, List.set_cons_succ])) | ((with_reducible refine at_store ?_); (first | (refine rp_stw rfl hS rfl rfl rfl (by first | exact .head | exact .tail .head | exact .tail (.tail .head) | exact .tail (.tail (.tail .head)) | exact .tail (.tail (.tail (.tail .head))) | fail) ?_; intro w hS)); (try simp only [Act.put, List.setIfInBounds_toArray, List.set_cons_zero, List.set_cons_succ])))
                · go_roundw
                  case rel => exact ⟨q + 1, by omega, by go_num, Lib.hid (by rw [HRW.out]; exact hS.tail), Lib.hid (fun q' h => by
                    rcases Nat.lt_or_ge q' q with h' | h'
                    · exact HM3.out q' h'
                    · obtain rfl : q' = q := by omega
                      intro f hf
                      rw [HF.out] at hf
                      rcases hf with rfl | rfl
                      · exact hz
                      · exact hf2)⟩
                  case measure => simp [intOf]; omega
                · refine rp_res2 hS rfl rfl (by (first | exact .head | exact .tail .head | exact .tail (.tail .head) | exact .tail (.tail (.tail .head)) | exact .tail (.tail (.tail (.tail .head))) | fail)) rfl rfl (fun hb => ⟨by rw [hit_one HR.out hf2]; rfl, hb⟩)
                · refine rp_res2 hS rfl rfl (by (first | exact .head | exact .tail .head | exact .tail (.tail .head) | exact .tail (.tail (.tail .head)) | exact .tail (.tail (.tail (.tail .head))) | fail)) rfl rfl (fun hb => ⟨by rw [hit_one HR.out hz]; rfl, hb⟩)
              · have HM4 : Hid (∀ d' : Nat, 1 ≤ d' → d' < d + 1 → ∀ w : Nat, w < 3 → missI s o d' w) := Lib.hid (fun d' h1 h2 w hw => by
                  rcases Nat.lt_or_ge d' d with h' | h'
                  · exact HM2.out d' h1 h' w hw
                  · obtain rfl : d' = d := by omega
                    exact HM3.out w (by omega))
                clear HM2 HM3
                go_wp2_with (first | fail)
                go_roundw
                case rel => exact ⟨d + 1, by omega, by omega, by go_num, Lib.hid (by rw [HRW.out]; exact hS), HM4⟩
                case measure => simp [intOf]; omega
          · have HM4 : Hid (∀ o' : Nat, 1 ≤ o' → o' < o + 1 → ∀ d : Nat, 1 ≤ d → d < 9 → ∀ w : Nat, w < 3 → missI s o' d w) := Lib.hid (fun o' h1 h2 d' hd1 hd2 w hw => by
              rcases Nat.lt_or_ge o' o with h' | h'
              · exact HM1.out o' h1 h' d' hd1 hd2 w hw
              · obtain rfl : o' = o := by omega
                exact HM2.out d' hd1 (by omega) w hw)
            clear HM1 HM2
            go_wp2_with (first | fail)
            go_roundw
            case rel => exact ⟨o + 1, by omega, by omega, by go_num, Lib.hid (by rw [HRW.out]; exact hS), HM4⟩
            case measure => simp [intOf]; omega
      · have HN : Hid (R = none) := Lib.hid (miss_all HR.out (fun o' h1 h2 => HM1.out o' h1 (by omega)))
        clear HM1
        go_wp2_with (first | ((with_reducible refine rp_shape_ ?_); refine rp_bld_ rfl ?_; (try simp only [Act.put, List.setIfInBounds_toArray, List.set_cons_zero, List.set_cons_succ])) | ((with_reducible refine at_store ?_); (first | (refine rp_stw rfl hS rfl rfl rfl (by first | exact .head | exact .tail .head | exact .tail (.tail .head) | exact .tail (.tail (.tail .head)) | exact .tail (.tail (.tail (.tail .head))) | fail) ?_; intro w hS)); (try simp only [Act.put, List.setIfInBounds_toArray, List.set_cons_zero, List.set_cons_succ])))
        all_goals (refine rp_res2 hS rfl rfl (by (first | exact .head | exact .tail .head | exact .tail (.tail .head) | exact .tail (.tail (.tail .head)) | exact .tail (.tail (.tail (.tail .head))) | fail)) rfl rfl (fun hb => ⟨by rw [HN.out]; rfl, hb⟩))
end Go.Proofs.YtlgelkbniogekaaGreatDoor
