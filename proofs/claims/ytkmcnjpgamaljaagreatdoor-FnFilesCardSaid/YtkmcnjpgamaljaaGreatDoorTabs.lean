import Derived.Test.YtkmcnjpgamaljaaGreatDoorShelf
import Derived.Test.YtkmcnjpgamaljaaGreatDoorWMore
import Derived.Lib.SmallJoins
import Derived.Lib.AppendIntMem
/- What the library's functions ask of the package variables: a number in MaxLen; the table of the powers of ten. Both stand on, behind writes into new memory. -/
namespace Go.Proofs.YtkmcnjpgamaljaaGreatDoor
open Go.RowKit
structure TabsL (w : World) : Prop where
  len : ∃ m, w.cell? ⟨0, 0, none⟩ = some (.int .i64 m)
theorem TabsL.below {w w' : World} (h : TabsL w) (hb : Below w.heap.size w w') : TabsL w' := by
  obtain ⟨m, hm⟩ := h.len
  exact ⟨⟨m, (hb.cell (World.block_lt_of_cell? w _ hm)).trans hm⟩⟩
end Go.Proofs.YtkmcnjpgamaljaaGreatDoor
