/- Walks: lists of effects: ListText, the program's and the reference's. Conditions: LaidM; the list lies in memory; it has fewer than a million elements. EffectZones, EffectIs, EffectTargets: the pro -/
import Derived.Test.YtdnnbfbhifelkaaGreatDoorMEParse
import Derived.Test.YtdnnbfbhifelkaaGreatDoorQ12
import Derived.Test.YtdnnbfbhifelkaaGreatDoorMEAlive
import Derived.Test.YtdnnbfbhifelkaaGreatDoorMERRead
set_option linter.all false
set_option maxRecDepth 100000
set_option maxHeartbeats 16000000
namespace Go.Proofs.YtdnnbfbhifelkaaGreatDoor
attribute [local irreducible] wpList Code.wp Calls
open Go.ChangeShapes Go.WideShapes Go.RowKit
abbrev LaidE0 (e : Ef) (v : Sl) (w : World) : Prop := LaidM w ∧ ModsAt0 e v w
theorem keepsE0 (e : Ef) (v : Sl) : ∀ w1 w2 : World, LaidE0 e v w1 → Below w1.heap.size w1 w2 → LaidE0 e v w2 := fun _ _ h hb => ⟨h.1.below hb, h.2.keep hb⟩
theorem LaidE0.few {e : Ef} {v : Sl} {w : World} (h : LaidE0 e v w) (h20 : e.mods.length ≤ 20) : LaidE e v w := ⟨h.1, h.2.few h20⟩
theorem effectIs_law (e : Ef) (v : Sl) (specs : Int) (w : World) (hl : LaidE0 e v w) : Calls Tryz.prog 3 #[.agg (e.at v).cells, .int .i64 specs] w fun x w' => x = .returned (.bool true) ∧ Below w.heap.size w w' := by
 obtain ⟨T, hT⟩ : ∃ T, eText e = T := ⟨_, rfl⟩
 obtain ⟨R, hR⟩ : ∃ R, eIs e specs = R := ⟨_, rfl⟩
 have HT := Lib.hid hT
 have HR := Lib.hid hR
 clear hT hR
 have hS := St.start hl (keepsE0 e v)
 go_enter Tryz.func3, Tryz.ntmps3
 go_wp2_with (first | (go_at_call 10; (with_reducible refine (St.call hS fun hl => aliveE_any _ hl.1).mono ?_); rintro e w ⟨rfl, hS⟩) | (go_at_call 9; (refine (r17Light_any e v _ hS.laid.2).mono ?_); rintro e0 w ⟨⟨b, rfl, h20⟩, hb⟩; have hS := hS.mono hb; have H20 := Lib.hid h20; clear hb h20; cases b) | ((with_reducible refine at_box ?_); (first | (refine wpList_box_agg rfl hS rfl rfl ?_; intro g w hS)); (try simp only [put0, put1, put2, put3, put4])) | ((with_reducible refine at_load ?_); (first | (refine em_ldw rfl hS rfl rfl (by repeat constructor) ?_)); (try simp only [put0, put1, put2, put3, put4])) | ((with_reducible refine region_here ?_); refine wp_region_St hS (by kernel_rfl) (by kernel_rfl) ?_) | ((with_reducible refine runS_end ?_); intro w hS) | ((with_reducible refine rat_load ?_); (first | (refine em_rlw rfl rfl rfl (by repeat constructor) (fun _ _ _ h => h) ?_)); (try simp only [put0, put1, put2, put3, put4])) | ((with_reducible refine rat_call ?_); (first | (refine runS_call (v := ?_) (args := ?_) 10 rfl (fun _ _ _ h => h) ?_ ?_ ?_; rotate_left 2; (focus ((intro w; go_simp) <;> with_reducible rfl)); (focus (intro w hS; refine St.callE hS (fun hl => aliveE_any _ hl.1) ?_; with_reducible rfl))) | (refine runS_call (v := ?_) (args := ?_) 11 rfl (fun _ _ _ h => h) ?_ ?_ ?_; rotate_left 2; (focus ((intro w; go_simp) <;> with_reducible rfl)); (focus (intro w hS; refine St.callE hS (fun hl => eIs_any e v specs R HR _ (hl.few (H20.out (by trivial)))) ?_; with_reducible rfl))) | (refine runS_call (v := ?_) (args := ?_) 12 rfl (fun _ _ _ h => h) ?_ ?_ ?_; rotate_left 2; (focus ((intro w; go_simp) <;> with_reducible rfl)); (focus (intro w hS; refine St.callE hS (fun hl => r17Is_any e v specs R HR _ (hl.few (H20.out (by trivial)))) ?_; with_reducible rfl))) | (refine runS_call (v := ?_) (args := ?_) 13 rfl (fun _ _ _ h => h) ?_ ?_ ?_; rotate_left 2; (focus ((intro w; go_simp) <;> with_reducible rfl)); (focus (intro w hS; refine St.callE hS (fun hl => eText_any e v T HT _ (hl.few (H20.out (by trivial)))) ?_; with_reducible rfl))) | (refine runS_call (v := ?_) (args := ?_) 14 rfl (fun _ _ _ h => h) ?_ ?_ ?_; rotate_left 2; (focus ((intro w; go_simp) <;> with_reducible rfl)); (focus (intro w hS; refine St.callE hS (fun hl => r17Text_any e v T HT _ (hl.few (H20.out (by trivial)))) ?_; with_reducible rfl)))); (try simp only [put0, put1, put2, put3, put4])) | ((with_reducible refine runS_here ?_); (refine runS_val (v := ?_) rfl (fun _ _ _ h => h) ?_ ?_; rotate_left; (focus ((intro w hS; go_simp) <;> with_reducible rfl))); (try simp only [put0, put1, put2, put3, put4])))
 all_goals go_ret
 all_goals exact ⟨ret_bool (by simp), hS.below⟩
theorem MI.nil {e : Ef} {v : Sl} (h : MI e v []) (w : World) : ModsAt e v w := by
 refine ⟨h.1, h.2.1, ?_⟩
 rcases h.2.2 with ⟨_, h0⟩ | ⟨g, cur, _, hr, _⟩
 ·exact .inl h0
 ·cases hr
theorem MI.one {e : Ef} {v : Sl} {gm : Nat} {cm : Array Value} (h : MI e v [(gm, cm, TMd)]) {w : World} (hg : w.heap[gm]? = some (.cells cm TMd (0, 0))) : ModsAt e v w := by
 refine ⟨h.1, h.2.1, ?_⟩
 rcases h.2.2 with ⟨_, h0⟩ | ⟨g, cur, ha, hr, hm⟩
 ·exact .inl h0
 ·cases hr with
  | head => exact .inr ⟨_, 0, ha, hm w hg⟩
  | tail h => cases h
abbrev LX (A0 A1 A2 : Option Addr) (l e1 e2 : List EV) (w : World) : Prop := LaidM w ∧ (ArgE0 A0 l w ∧ (ArgE A1 e1 w ∧ ArgE A2 e2 w))
end Go.Proofs.YtdnnbfbhifelkaaGreatDoor
