/- Walks: the reference of chapter 17: read. Conditions: LaidM; the modifications lie in memory; the text is shorter than a hundred million bytes. -/
import Derived.Test.YtdnnbfbhifelkaaGreatDoorQ12
import Derived.Test.YtdnnbfbhifelkaaGreatDoorQ7
import Derived.Test.YtdnnbfbhifelkaaGreatDoorQ10
import Derived.Test.YtdnnbfbhifelkaaGreatDoorQ6
import Derived.Test.YtdnnbfbhifelkaaGreatDoorQ4
import Derived.Test.YtdnnbfbhifelkaaGreatDoorQ3
set_option linter.all false
set_option maxRecDepth 100000
set_option maxHeartbeats 16000000
namespace Go.Proofs.YtdnnbfbhifelkaaGreatDoor
attribute [local irreducible] wpList Code.wp Calls
open Go.ChangeShapes Go.WideShapes Go.RowKit
abbrev RD (e' : Ef) (v : Sl) (b : Bool) (w : World) (x : Ending) (w' : World) : Prop := x = .returned (.tuple #[.agg (e'.at v).cells, .bool b]) ∧ Below w.heap.size w w'
def MI (e : Ef) (v : Sl) (rows : List Row) : Prop := v.n = e.mods.length ∧ e.mods.length < 1000000 ∧ ((v.a = none ∧ e.mods = []) ∨ ∃ g cur, v.a = some ⟨g, 0, none⟩ ∧ RowAt g cur TMd rows ∧ ∀ w'' : World, w''.heap[g]? = some (.cells cur TMd (0, 0)) → MsAt g 0 e.mods w'')
theorem MI.at_ {e : Ef} {v : Sl} {rows : List Row} (h : MI e v rows) {L : World → Prop} {w0 w : World} (hS : St L w0 rows w) : ModsAt e v w := by
 refine ⟨h.1, h.2.1, ?_⟩
 rcases h.2.2 with ⟨_, h0⟩ | ⟨g, cur, ha, hr, hm⟩
 ·exact .inl h0
 ·exact .inr ⟨g, 0, ha, hm w (hS.row hr)⟩
theorem MI.cons {e : Ef} {v : Sl} {rows : List Row} (h : MI e v rows) (x : Row) : MI e v (x :: rows) := ⟨h.1, h.2.1, h.2.2.imp id fun ⟨g, cur, ha, hr, hm⟩ => ⟨g, cur, ha, .tail hr, hm⟩⟩
theorem MI.same {e e' : Ef} {v : Sl} {rows : List Row} (h : MI e v rows) (he : e'.mods = e.mods) : MI e' v rows := by unfold MI; rw [he]; exact h
theorem MI.zero (op : Int) : MI (emptyE op) ⟨none, 0, 0⟩ [] := ⟨rfl, (by decide : 0 < 1000000), .inl ⟨rfl, rfl⟩⟩
end Go.Proofs.YtdnnbfbhifelkaaGreatDoor
