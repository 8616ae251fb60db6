/- Walks: package filter: Is. Conditions: Laid. -/
import Derived.Test.YtakgfbcmkhcdkaaGreatDoorMWriter
namespace Go.Proofs.YtakgfbcmkhcdkaaGreatDoor
set_option linter.all false
open Go.ChangeShapes Go.WideShapes Go.RowKit
/-- What a contract says of memory, said from an earlier world on. -/
theorem carry {P : Program} {f : Nat} {args : Array Value} {w w0 : World} {R : Ending → Prop} (h : Calls P f args w fun e w' => R e ∧ Below w.heap.size w w') (hb : Below w0.heap.size w0 w) :
    Calls P f args w fun e w' => R e ∧ Below w0.heap.size w0 w' := h.mono fun _ _ h => ⟨h.1, below_two hb h.2⟩
/-- A block that was made just ahead holds what it held. -/
theorem kept_cells {w w2 : World} {o : Obj} (hb : Below (w.alloc o).heap.size (w.alloc o) w2) (j : Nat) : w2.cell? ⟨w.heap.size, j, none⟩ = (w.alloc o).cell? ⟨w.heap.size, j, none⟩ := hb.cell (p := ⟨w.heap.size, j, none⟩) (by simp)
/-- A filter's fields. -/
structure Flt where
  zone : Int
  who : Int
  self : Int
  types : Int
  ntypes : Int
  colors : Int
  ncolors : Int
  sub : ByteArray
  keys : Int
  tap : Int
  pk : Int
  pn : Int
  tk : Int
  tn : Int
  vk : Int
  vn : Int
def Flt.cells (f : Flt) : Array Value := #[.int .i64 f.zone, .int .i64 f.who, .int .i64 f.self, .int .i64 f.types, .int .i64 f.ntypes, .int .i64 f.colors, .int .i64 f.ncolors, .string f.sub, .int .i64 f.keys, .int .i64 f.tap, .int .i64 f.pk, .int .i64 f.pn, .int .i64 f.tk, .int .i64 f.tn, .int .i64 f.vk, .int .i64 f.vn]
def bnd (k n : Int) : Bool := btw k 3 && (btw n 1000000 && (k != 0 || n == 0))
theorem bounded_any (k n : Int) (w : World) :
    Calls Tryz.prog 64 #[.agg #[.int .i64 k, .int .i64 n]] w fun e w' => e = .returned (.bool (bnd k n)) ∧ Below w.heap.size w w' := by
  have HD : Hid (bnd k n = (btw k 3 && (btw n 1000000 && (k != 0 || n == 0)))) := rfl
  generalize bnd k n = R at *
  go_enter Tryz.func64, Tryz.ntmps64
  go_wp2_with (go_at_call 63; (with_reducible refine (between_any _ _ _).mono ?_); rintro e w2 ⟨rfl, rfl⟩)
  all_goals
    go_ret
    refine ⟨ret_bool ?_, (Below.refl _ _).alloc (Nat.le_refl _) _⟩
    rw [HD.out]; simp_all
def okMasks (a b most : Int) : Bool := btw a most && (btw b most && bits .and .i64 a b == 0)
def fltIs (f : Flt) : Bool := (btw f.zone 5 && (btw f.who 2 && (btw f.self 2 && (btw f.tap 2 && btw f.keys 131071)))) && (okMasks f.types f.ntypes 63 && (okMasks f.colors f.ncolors 31 && ((L f.sub == [] || isSub (L f.sub)) && (bnd f.pk f.pn && (bnd f.tk f.tn && bnd f.vk f.vn)))))
set_option maxRecDepth 100000 in
set_option maxHeartbeats 4000000 in
theorem fltIs_any (zone who self types ntypes colors ncolors : Int) (sub : ByteArray) (keys tap pk pn tk tn vk vn : Int) (w : World) (hl : Laid w) (R : Bool) (HD : Hid (fltIs ⟨zone, who, self, types, ntypes, colors, ncolors, sub, keys, tap, pk, pn, tk, tn, vk, vn⟩ = R)) :
    Calls Tryz.prog 31 #[.agg #[.int .i64 zone, .int .i64 who, .int .i64 self, .int .i64 types, .int .i64 ntypes, .int .i64 colors, .int .i64 ncolors, .string sub, .int .i64 keys, .int .i64 tap, .int .i64 pk, .int .i64 pn, .int .i64 tk, .int .i64 tn, .int .i64 vk, .int .i64 vn]] w fun e w' => e = .returned (.bool R) ∧ Below w.heap.size w w' := by
  have HD : Hid (R = ((btw zone 5 && (btw who 2 && (btw self 2 && (btw tap 2 && btw keys 131071)))) && ((btw types 63 && (btw ntypes 63 && !(bits .and .i64 types ntypes != 0))) && ((btw colors 31 && (btw ncolors 31 && !(bits .and .i64 colors ncolors != 0))) && ((decide (sub.toList = []) || isSub (L sub)) && (bnd pk pn && (bnd tk tn && bnd vk vn))))))) := Lib.hid (by
    have e : decide (sub.toList = []) = (L sub == []) := by rw [L_toList, Bool.eq_iff_iff]; simp
    rw [← HD.out, fltIs, okMasks, okMasks, e]; simp only [bne, Bool.not_not])
  have HS : Hid (∀ w, Laid w → Calls Tryz.prog 30 #[.string sub] w fun e w' => e = .returned (.bool (isSub (L sub))) ∧ Below w.heap.size w w') := Lib.hid (fun w hl => isSub_any sub w hl)
  generalize isSub (L sub) = b3 at *
  have hl1 : Laid (w.alloc (.cells #[.int .i64 zone, .int .i64 who, .int .i64 self, .int .i64 types, .int .i64 ntypes, .int .i64 colors, .int .i64 ncolors, .string sub, .int .i64 keys, .int .i64 tap, .int .i64 pk, .int .i64 pn, .int .i64 tk, .int .i64 tn, .int .i64 vk, .int .i64 vn] 25)) := hl.below ((Below.refl _ _).alloc (Nat.le_refl _) _)
  have hb : Hid (Below w.heap.size w (w.alloc (.cells #[.int .i64 zone, .int .i64 who, .int .i64 self, .int .i64 types, .int .i64 ntypes, .int .i64 colors, .int .i64 ncolors, .string sub, .int .i64 keys, .int .i64 tap, .int .i64 pk, .int .i64 pn, .int .i64 tk, .int .i64 tn, .int .i64 vk, .int .i64 vn] 25))) := Lib.hid ((Below.refl _ _).alloc (Nat.le_refl _) _)
  go_enter Tryz.func31, Tryz.ntmps31
  go_wp2_with (first | (go_at_call 63; (with_reducible refine (between_any _ _ _).mono ?_); rintro e w2 ⟨rfl, rfl⟩) | (go_at_call 30; (with_reducible refine (carry (HS.out _ hl1) (Below.refl _ _)).mono ?_); rintro e w2 ⟨rfl, hb2⟩; have hc2 := kept_cells hb2) | (go_at_call 64; (with_reducible refine (carry (bounded_any _ _ _) (by first | assumption | exact Below.refl _ _)).mono ?_); rintro e w2 ⟨rfl, hb2⟩; have hc2 := kept_cells hb2))
  all_goals
    go_ret
    refine ⟨ret_bool ?_, ?_⟩
    · rw [HD.out]; first | (simp [*]; done) | (simp_all; done)
    · first | exact hb.out | exact below_two hb.out (by assumption)
end Go.Proofs.YtakgfbcmkhcdkaaGreatDoor
