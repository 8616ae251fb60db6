/- Walks of the reference: package cardgameref16: numbered, Is of any reference. Conditions: none. Walks of the reference: package cardgameref16: Text. Conditions: none. Walks of the reference: packag -/
import Derived.Test.YtdnnbfbhifelkaaGreatDoorMSIsW
import Derived.Test.YtdnnbfbhifelkaaGreatDoorMSText
import Derived.Test.YtdnnbfbhifelkaaGreatDoorQ7
import Derived.Test.YtdnnbfbhifelkaaGreatDoorQ9
import Derived.Test.YtdnnbfbhifelkaaGreatDoorQ3
set_option linter.all false
set_option maxRecDepth 100000
set_option maxHeartbeats 16000000
namespace Go.Proofs.YtdnnbfbhifelkaaGreatDoor
attribute [local irreducible] wpList Code.wp Calls fltIs fltEq
open Go.ChangeShapes Go.WideShapes Go.RowKit
attribute [local simp] fltEq_refl
theorem rNumK_any (k : Int) (w : World) : Calls Tryz.prog 58 #[.int .i64 k] w fun e w' => e = .returned (.bool (kNum k)) ∧ w = w' := by
 go_in
 go_wp2_with (have hq := iE; subst hq)
 all_goals (go_ret; exact ⟨ret_bool (by simp_all [kNum]), rfl⟩)
instance {L : World → Prop} (k : Int) : Con 58 #[.int .i64 k] L (.bool (kNum k)) := ⟨fun w _ => (rNumK_any k w).mono fun _ _ h => ⟨h.1, bel_eq h.2⟩⟩
theorem rrIs_w (kind n specs : Int) (f : Flt) (w0 : World) :
 Calls Tryz.prog 31 #[.agg (Rf.cells ⟨kind, n, f⟩), .int .i64 specs] w0 fun e w' => e = .returned (.bool (refIs ⟨kind, n, f⟩ specs)) ∧ Below w0.heap.size w0 w' := by
 have hS := St.start0 w0
 go_in
 go_wp2_with (first | (have hq := iE; subst hq) | (have hq := sE; subst hq) | refine s0 ?_ | (refine s1 ?_; clear hS; intro w hS) | (refine s2 ?_; clear hS; intro g w hS) | (refine s4 ?_; clear hS; intro g cur cw w hw hcw hS) | (refine s3 ?_ ?_ <;> intro hb <;> (try subst hb) <;> (try (exfalso; first | omega | exact Bool.noConfusion hb))))
 all_goals go_ret
 all_goals refine ⟨ret_bool ?_, hS.below⟩
 all_goals clear hS
 all_goals (simp_all [refIs, kNum, kBare, Int.le_min] <;> exact fin)
instance {L : World → Prop} (r : Rf) (n : Int) : Con 31 #[.agg (Rf.cells r), .int .i64 n] L (.bool (refIs r n)) := ⟨fun w _ => rrIs_w r.kind r.n n r.f w⟩
end Go.Proofs.YtdnnbfbhifelkaaGreatDoor
namespace Go.Proofs.YtdnnbfbhifelkaaGreatDoor
attribute [local irreducible] wpList Code.wp Calls fltIs fltEq
open Go.ChangeShapes Go.WideShapes Go.RowKit
attribute [local simp] fltEq_refl
theorem rrIs_v (r : Rf) (specs : Int) (R : Bool) (HR : Hid (refIs r specs = R)) (w : World) : Calls Tryz.prog 31 #[.agg r.cells, .int .i64 specs] w fun e w' => e = .returned (.bool R) ∧ Below w.heap.size w w' := HR.out ▸ rrIs_w r.kind r.n specs r.f w
theorem rrNames_any (w : World) : Calls Tryz.prog 125 #[] w (RetTexts w refT) := by
 go_enter Tryz.func125, Tryz.ntmps125
 go_wp2
 go_ret
 exact ⟨_, _, rfl, texts_lit refT _ rfl (by decide) w _ rfl, (Below.refl _ _).alloc (Nat.le_refl _) _⟩
instance {L : World → Prop} : ConT 125 #[] L refT 9 := ⟨fun w _ => rrNames_any w, rfl, by decide⟩
instance : TLen refT 20 := ⟨by decide⟩
instance : Rng 1 := ⟨by decide, by decide⟩
instance : Rng 2 := ⟨by decide, by decide⟩
instance : Rng 3 := ⟨by decide, by decide⟩
instance : Rng 4 := ⟨by decide, by decide⟩
theorem rrText_v (r : Rf) (w0 : World) : Calls Tryz.prog 78 #[.agg r.cells] w0 fun e w' => e = .returned (.string (B (refText r))) ∧ Below w0.heap.size w0 w' := by
 have hS := St.start0 w0
 cases hv : refIs r 4
 ·go_in
  go_wp2_with (first | refine s0 ?_ | (refine s1 ?_; clear hS; intro w hS) | (refine s2 ?_; clear hS; intro g w hS))
  all_goals (go_ret; refine ⟨ret_B ?_, hS.below⟩; clear hS; simp_all [refText])
 rcases refIs_cases hv with rfl | rfl | rfl | rfl | rfl | (rfl | rfl | rfl | rfl) | (rfl | rfl | rfl | rfl) | ⟨f, hf, rfl⟩
 all_goals
  go_in
  go_wp2_with (first | refine s0 ?_ | (refine s1 ?_; clear hS; intro w hS) | (refine s2 ?_; clear hS; intro g w hS) | (refine s4 ?_; clear hS; intro g cur cw w hw hcw hS))
 all_goals (go_ret; refine ⟨ret_B ?_, hS.below⟩; clear hS; first | (simp_all [refText, refBody, kNum, wd, refT, eachW]; done))
instance {L : World → Prop} (r : Rf) : Con 78 #[.agg (Rf.cells r)] L (.string (B (refText r))) := ⟨fun w _ => rrText_v r w⟩
end Go.Proofs.YtdnnbfbhifelkaaGreatDoor
namespace Go.Proofs.YtdnnbfbhifelkaaGreatDoor
attribute [local irreducible] wpList Code.wp Calls fltIs fltEq
open Go.ChangeShapes Go.WideShapes Go.RowKit
attribute [local simp] fltEq_refl
attribute [local go_sem] errI_ne errI_eq B_extract
theorem cand_step {k n : Nat} (h : n < 5) : candN k n = (k, n) :: candN k (n + 1) := by
 unfold candN; rw [show 5 - n = (5 - (n + 1)) + 1 by omega, List.range'_succ]; rfl
theorem cand_no {s : Str} {k n : Nat} {o : Option (Nat × Nat)} {m : List (Nat × Nat)} (h : n < 5) (hq : qHit s (k, n) = false) (ho : o = (candN k n ++ m).find? (qHit s)) : o = (candN k (n + 1) ++ m).find? (qHit s) := by
 rw [ho, cand_step h, List.cons_append, List.find?_cons, hq]
theorem cand_yes {s : Str} {k n : Nat} {o : Option (Nat × Nat)} {m : List (Nat × Nat)} (h : n < 5) (hq : qHit s (k, n) = true) (ho : o = (candN k n ++ m).find? (qHit s)) : o = some (k, n) := by
 rw [ho, cand_step h, List.cons_append, List.find?_cons, hq]
theorem rrParse_w (s : Str) [Sht s] (w0 : World) : Calls Tryz.prog 92 #[.string (B s)] w0 fun e w' => e = .returned (refRet (qRefParse s)) ∧ Below w0.heap.size w0 w' := by
 have hS := St.start0 w0
 have hg := get_B s
 have hsz := B_size s
 have hlen := Sht.lt (s := s)
 go_in
 go_wp2_with (first | (refine s2 ?_; clear hS; intro g w hS))
 go_loopw [4] (fun kv wr => ∃ k : Nat, 1 ≤ k ∧ k ≤ 9 ∧ kv = .int .i64 k ∧ Hid (St (fun _ => True) w0 [(g, Rf.cells zeroR, TRf)] wr) ∧ Hid (qLoop s = (candK k (9 - k)).find? (qHit s))) (fun kv _ => 9 - (intOf kv).toNat)
 case atStart => exact ⟨1, by omega, by omega, rfl, Lib.hid hS, rfl⟩
 case round =>
  obtain ⟨k, hk1, hk2, rfl, HS, HL⟩ := hrel
  clear hS
  have hS := HS.out
  clear HS
  by_cases hlt : k ≤ 8
  ·have hk8 : (k : Int) ≤ 8 := by omega
   go_wp2_with (first | fail)
   obtain ⟨wo, rfl⟩ : ∃ wo : World, wo = wr := ⟨_, rfl⟩
   go_loopw [5] (fun nv wi => ∃ n : Nat, n ≤ 5 ∧ nv = .int .i64 n ∧ Hid (St (fun _ => True) w0 [(g, Rf.cells zeroR, TRf)] wi) ∧ Hid (qLoop s = (candN k n ++ candK (k + 1) (8 - k)).find? (qHit s))) (fun nv _ => 5 - (intOf nv).toNat)
   case atStart => exact ⟨0, by omega, rfl, Lib.hid hS, Lib.hid (by rw [HL.out, show 9 - k = (8 - k) + 1 by omega]; rfl)⟩
   case round =>
    obtain ⟨n, hn, rfl, HSi, HLi⟩ := hrel
    clear hS
    have hS := HSi.out
    clear HSi
    by_cases hln : n < 5
    ·have hn4 : (n : Int) ≤ 4 := by omega
     go_wp2_with (first | (have hq := sE; subst hq) | refine s0 ?_ | (refine s1 ?_; clear hS; intro w hS) | (refine s2 ?_; clear hS; intro g w hS) | (refine s3 ?_ ?_ <;> intro hb <;> (try subst hb) <;> (try (exfalso; first | omega | exact Bool.noConfusion hb))))
     all_goals first
      | (refine res2 hS ?_
         refine ⟨ret_val ?_, hS.below⟩
         clear hS hg
         have hp := cand_yes hln (by simp_all [qHit, rowOf] <;> omega) HLi.out
         unfold qRefParse
         rw [hp]; rfl)
      | (go_roundw
         case rel => exact ⟨n + 1, by omega, by go_num, Lib.hid hS.tail, Lib.hid (cand_no hln (by clear hS hg; simp_all [qHit, rowOf] <;> (intros; omega)) HLi.out)⟩
         case measure => simp [intOf]; omega)
    ·obtain rfl : n = 5 := by omega
     go_wp2_with (first | fail)
     go_roundw
     case rel => exact ⟨k + 1, by omega, by omega, by go_num, Lib.hid hS, Lib.hid (by rw [HLi.out, show 9 - (k + 1) = 8 - k by omega]; rfl)⟩
     case measure => simp [intOf]; omega
  ·obtain rfl : k = 9 := by omega
   have hl : qLoop s = none := HL.out
   have HL2 := Lib.hid hl
   clear hl HL
   go_wp2_with (first | refine s0 ?_ | (refine s1 ?_; clear hS; intro w hS) | (refine s2 ?_; clear hS; intro g w hS) | (refine s3 ?_ ?_ <;> intro hb <;> (try subst hb) <;> (try (exfalso; first | omega | exact Bool.noConfusion hb))))
   all_goals first | (refine res2 hS ?_; refine ⟨ret_val ?_, hS.below⟩; clear hS hg; have hl := HL2.out; clear HL2) | (exfalso; clear hS hg; simp_all; done)
   all_goals (clear wr; by_cases h6 : s.length < 6 <;> by_cases h41 : byt s (s.length - 1) = 41 <;> cases hp : parseS ((s.take (s.length - 1)).drop 5) <;> simp_all [qRefParse, qShape, qInner, refRet, eachW, errI] <;> omega)
instance {L' : World → Prop} (s : Str) [Sht s] : Con 92 #[.string (B s)] L' (.tuple #[.agg (Rf.cells ((qRefParse s).getD zeroR)), .int .i64 (errI (qRefParse s).isSome)]) := ⟨fun w _ => by rw [← refRet_g]; exact rrParse_w s w⟩
end Go.Proofs.YtdnnbfbhifelkaaGreatDoor
namespace Go.Proofs.YtdnnbfbhifelkaaGreatDoor
attribute [local irreducible] wpList Code.wp Calls fltIs fltEq
open Go.ChangeShapes Go.WideShapes Go.RowKit
theorem rAIs_w (k n c : Int) (f : Flt) (w0 : World) : Calls Tryz.prog 34 #[.agg (Am.cells ⟨k, n, c, f⟩)] w0 fun e w' => e = .returned (.bool (amIs ⟨k, n, c, f⟩)) ∧ Below w0.heap.size w0 w' := by
 have hS := St.start0 w0
 go_in
 go_wp2_with (first | (have hq := iE; subst hq) | refine s0 ?_ | (refine s1 ?_; clear hS; intro w hS) | (refine s2 ?_; clear hS; intro g w hS) | (refine s3 ?_ ?_ <;> intro hb <;> (try subst hb) <;> (try (exfalso; first | omega | exact Bool.noConfusion hb))))
 all_goals go_ret
 all_goals refine ⟨ret_bool ?_, hS.below⟩
 all_goals clear hS
 all_goals (simp_all [amIs, amEq, bareA, cnt_none, zeroA, fltEq_refl] <;> first | omega | (rcases (by omega : c = 0 ∨ c = 1 ∨ c = 2) with rfl | rfl | rfl <;> simp))
theorem rAIs_v (a : Am) (R : Bool) (HR : Hid (amIs a = R)) (w : World) : Calls Tryz.prog 34 #[.agg a.cells] w fun e w' => e = .returned (.bool R) ∧ Below w.heap.size w w' := HR.out ▸ rAIs_w a.k a.n a.c a.f w
instance {L : World → Prop} (a : Am) : Con 34 #[.agg (Am.cells a)] L (.bool (amIs a)) := ⟨fun w _ => rAIs_w a.k a.n a.c a.f w⟩
theorem rAText_w (k n c : Int) (f : Flt) (w0 : World) : Calls Tryz.prog 79 #[.agg (Am.cells ⟨k, n, c, f⟩)] w0 fun e w' => e = .returned (.string (B (amText ⟨k, n, c, f⟩))) ∧ Below w0.heap.size w0 w' := by
 have hS := St.start0 w0
 go_in
 go_wp2_with (first | (have hq := iE; subst hq) | (go_at_call 111; have hn := am_in ‹(!amIs _) = false›; simp only at hn; have : Len (Lib.itoa n) 21 := ⟨Lib.itoa_length_le n (by omega) (by omega)⟩; refine c_call (fun _ => rText_any _ _ (by omega) (by omega)) hS ?_; clear hS; intro w hS) | refine s0 ?_ | (refine s1 ?_; clear hS; intro w hS) | (refine s2 ?_; clear hS; intro g w hS))
 all_goals go_ret
 all_goals refine ⟨ret_B ?_, hS.below⟩
 all_goals clear hS
 all_goals first | (simp_all [amText]; done) | (simp_all [amText, amBody, countS, countW, cntsW, wd, simT, amIs, bareA] <;> omega)
theorem rAText_v (a : Am) (w : World) : Calls Tryz.prog 79 #[.agg a.cells] w fun e w' => e = .returned (.string (B (amText a))) ∧ Below w.heap.size w w' := rAText_w a.k a.n a.c a.f w
instance {L : World → Prop} (a : Am) : Con 79 #[.agg (Am.cells a)] L (.string (B (amText a))) := ⟨fun w _ => rAText_v a w⟩
end Go.Proofs.YtdnnbfbhifelkaaGreatDoor
namespace Go.Proofs.YtdnnbfbhifelkaaGreatDoor
open Go.ChangeShapes Go.WideShapes Go.RowKit
end Go.Proofs.YtdnnbfbhifelkaaGreatDoor
