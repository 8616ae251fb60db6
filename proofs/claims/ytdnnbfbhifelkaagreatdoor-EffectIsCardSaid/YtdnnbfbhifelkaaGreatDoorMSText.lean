/- Walks: package ref: Text. Conditions: Laid. Walks: package ref: numbered, read, Parse. Conditions: Laid; the text is shorter than 100 million bytes. -/
import Derived.Test.YtdnnbfbhifelkaaGreatDoorMSIsW
set_option linter.all false
set_option maxRecDepth 100000
set_option maxHeartbeats 16000000
namespace Go.Proofs.YtdnnbfbhifelkaaGreatDoor
attribute [local irreducible] wpList Code.wp Calls fltIs fltEq
open Go.ChangeShapes Go.WideShapes Go.RowKit
attribute [local simp] fltEq_refl
theorem rfIs_v (r : Rf) (specs : Int) (R : Bool) (HR : Hid (refIs r specs = R)) (w : World) (hl : Laid w) : Calls Tryz.prog 54 #[.agg r.cells, .int .i64 specs] w fun e w' => e = .returned (.bool R) ∧ Below w.heap.size w w' := HR.out ▸ rfIs_w r.kind r.n specs r.f w hl
theorem ref_in {r : Rf} (h : (!refIs r 4) = false) : 0 ≤ r.n ∧ r.n ≤ 4 := by
 rcases refIs_cases (by simpa using h) with rfl | rfl | rfl | rfl | rfl | (rfl | rfl | rfl | rfl) | (rfl | rfl | rfl | rfl) | ⟨f, _, rfl⟩ <;> simp
theorem rfText_w (kind n : Int) (f : Flt) (w0 : World) (hl : Laid w0) : Calls Tryz.prog 39 #[.agg (Rf.cells ⟨kind, n, f⟩)] w0 fun e w' => e = .returned (.string (B (refText ⟨kind, n, f⟩))) ∧ Below w0.heap.size w0 w' := by
 have hS := St.start hl fun _ _ h hb => h.below hb
 go_in
 go_wp2_with (first | (have hq := iE; subst hq) | (go_at_call 64; have hn := ref_in ‹(!refIs _ _) = false›; simp only at hn; have : Len (Lib.itoa n) 21 := ⟨Lib.itoa_length_le n (by omega) (by omega)⟩; refine c_call (fun hl => numText_any _ (by omega) (by omega) _ hl) hS ?_; clear hS; intro w hS) | refine s0 ?_ | (refine s1 ?_; clear hS; intro w hS) | (refine s2 ?_; clear hS; intro g w hS))
 all_goals go_ret
 all_goals refine ⟨ret_B ?_, hS.below⟩
 all_goals clear hS
 all_goals first | (simp_all [refText]; done) | (simp_all [refText, refBody, kNum, eachW, wd, refT]; done) | (simp_all [refText, refBody, kNum, kBare, refIs, wd, refT]; done)
theorem rfText_v (r : Rf) (w : World) (hl : Laid w) : Calls Tryz.prog 39 #[.agg r.cells] w fun e w' => e = .returned (.string (B (refText r))) ∧ Below w.heap.size w w' := rfText_w r.kind r.n r.f w hl
instance {L : World → Prop} [Sub L Laid] (r : Rf) : Con 39 #[.agg (Rf.cells r)] L (.string (B (refText r))) := ⟨fun w hl => rfText_v r w (Sub.sub w hl)⟩
end Go.Proofs.YtdnnbfbhifelkaaGreatDoor
namespace Go.Proofs.YtdnnbfbhifelkaaGreatDoor
attribute [local irreducible] wpList Code.wp Calls fltIs fltEq
open Go.ChangeShapes Go.WideShapes Go.RowKit
attribute [local simp] fltEq_refl
attribute [local go_sem] errI_ne errI_eq
def refRet (o : Option Rf) : Value := match o with | some r => .tuple #[.agg r.cells, .int .i64 0] | none => .tuple #[.agg zeroR.cells, .int .i64 3]
theorem numbered_w (s p : Str) (k : Int) [Sht s] (w0 : World) (hl : Laid w0) : Calls Tryz.prog 176 #[.string (B s), .string (B p), .int .i64 k] w0 fun e w' => e = .returned (.tuple #[.agg (Rf.cells ⟨k, (numOf (Lib.trimPrefix s p)).getD 0, zeroF⟩), .bool (Lib.hasPrefix s p && (numOf (Lib.trimPrefix s p)).isSome)]) ∧ Below w0.heap.size w0 w' := by
 have hS := St.start hl fun _ _ h hb => h.below hb
 go_in
 go_wp2_with (first | refine s0 ?_ | (refine s1 ?_; clear hS; intro w hS) | (refine s2 ?_; clear hS; intro g w hS))
 all_goals (refine res2 hS ?_; refine ⟨ret_val ?_, hS.below⟩; simp_all)
instance {L : World → Prop} [Sub L Laid] {p : ByteArray} {l : Str} [h : Lit p l] (s : Str) (k : Int) [Sht s] : Con 176 #[.string (B s), .string p, .int .i64 k] L (.tuple #[.agg (Rf.cells ⟨k, (numOf (Lib.trimPrefix s l)).getD 0, zeroF⟩), .bool (Lib.hasPrefix s l && (numOf (Lib.trimPrefix s l)).isSome)]) := ⟨fun w hl => h.eq ▸ numbered_w s l k w (Sub.sub w hl)⟩
theorem read_w (s : Str) [Sht s] (w0 : World) (hl : Laid w0) : Calls Tryz.prog 137 #[.string (B s)] w0 fun e w' => e = .returned (.agg (Rf.cells (readR s))) ∧ Below w0.heap.size w0 w' := by
 have hS := St.start hl fun _ _ h hb => h.below hb
 go_in
 go_wp2_with (first | (have hq := sE; subst hq) | refine s0 ?_ | (refine s1 ?_; clear hS; intro w hS) | (refine s2 ?_; clear hS; intro g w hS))
 all_goals (refine res1 hS ?_; refine ⟨ret_cells ?_, hS.below⟩; clear hS)
 all_goals first | rfl | (cases hA : numOf (Lib.trimPrefix s [116, 97, 114, 103, 101, 116]) <;> cases hB : numOf (Lib.trimPrefix s [111, 119, 110, 101, 114]) <;> cases hC : parseS (Lib.trimSuffix (Lib.trimPrefix s [101, 97, 99, 104, 40]) [41]) <;> simp_all [readR, readNum, readEach, wd, refT, targetW, ownerW, eachW])
instance {L : World → Prop} [Sub L Laid] (s : Str) [Sht s] : Con 137 #[.string (B s)] L (.agg (Rf.cells (readR s))) := ⟨fun w hl => read_w s w (Sub.sub w hl)⟩
theorem refRet_g (o : Option Rf) : refRet o = .tuple #[.agg (Rf.cells (o.getD zeroR)), .int .i64 (errI o.isSome)] := by cases o <;> rfl
theorem rfParse_w (s : Str) [Sht s] (w0 : World) (hl : Laid w0) : Calls Tryz.prog 82 #[.string (B s)] w0 fun e w' => e = .returned (refRet (refParse s)) ∧ Below w0.heap.size w0 w' := by
 have hS := St.start hl fun _ _ h hb => h.below hb
 go_in
 go_wp2_with (first | refine s0 ?_ | (refine s1 ?_; clear hS; intro w hS) | (refine s2 ?_; clear hS; intro g w hS) | (refine s3 ?_ ?_ <;> intro hb <;> (try subst hb) <;> (try (exfalso; first | omega | exact Bool.noConfusion hb))))
 all_goals refine res2 hS ?_
 all_goals refine ⟨ret_val ?_, hS.below⟩
 all_goals clear hS
 all_goals simp_all [refParse, refRet]
instance {L : World → Prop} [Sub L Laid] (s : Str) [Sht s] : Con 82 #[.string (B s)] L (.tuple #[.agg (Rf.cells ((refParse s).getD zeroR)), .int .i64 (errI (refParse s).isSome)]) := ⟨fun w hl => by rw [← refRet_g]; exact rfParse_w s w (Sub.sub w hl)⟩
theorem rfParse_any (s : ByteArray) (w : World) (hl : Laid w) (hs : s.size < 100000000) : Calls Tryz.prog 82 #[.string s] w fun e w' => e = .returned (refRet (refParse (L s))) ∧ Below w.heap.size w w' := by
 have : Sht (L s) := ⟨by rw [size_l]; exact hs⟩
 have h := rfParse_w (L s) w hl
 rwa [B_L] at h
theorem rfText_is (r : Rf) (T : ByteArray) (hT : Hid (B (refText r) = T)) (w : World) (hl : Laid w) :
 Calls Tryz.prog 39 #[.agg r.cells] w fun e w' => e = .returned (.string T) ∧ Below w.heap.size w w' :=
 (rfText_v r w hl).mono fun e w' h => ⟨by rw [h.1, hT.out], h.2⟩
end Go.Proofs.YtdnnbfbhifelkaaGreatDoor
