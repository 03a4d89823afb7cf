import Derived.Test.YtekkoodlnaapeaaGreatDoorShelf
import Derived.Test.YtekkoodlnaapeaaGreatDoorWMore
import Derived.Lib.SmallJoins
import Derived.Lib.AppendIntMem
/- What the library's functions ask of the package variables: a number in MaxLen; the table of the powers of ten. Both stand on, behind writes into new memory. -/
namespace Go.Proofs.YtekkoodlnaapeaaGreatDoor
open Go.RowKit
structure TabsL (w : World) : Prop where
  len : ∃ m, w.cell? ⟨0, 0, none⟩ = some (.int .i64 m)
theorem TabsL.below {w w' : World} (h : TabsL w) (hb : Below w.heap.size w w') : TabsL w' := by
  obtain ⟨m, hm⟩ := h.len
  exact ⟨⟨m, (hb.cell (World.block_lt_of_cell? w _ hm)).trans hm⟩⟩
structure TabsP (w : World) : Prop where
  pow : Lib.TabIs Tryz.prog w "internal/strconv.uint64pow10" .u64 Lib.pow10Tab
theorem TabsP.below {w w' : World} (h : TabsP w) (hb : Below w.heap.size w w') : TabsP w' :=
  ⟨Joins.tab_stays (g := 1) (by kernel_rfl) h.pow hb (Nat.le_refl _)⟩
structure TabsLP (w : World) : Prop where
  len : ∃ m, w.cell? ⟨0, 0, none⟩ = some (.int .i64 m)
  pow : Lib.TabIs Tryz.prog w "internal/strconv.uint64pow10" .u64 Lib.pow10Tab
theorem TabsLP.below {w w' : World} (h : TabsLP w) (hb : Below w.heap.size w w') : TabsLP w' :=
  ⟨(TabsL.below ⟨h.len⟩ hb).len, (TabsP.below ⟨h.pow⟩ hb).pow⟩
/-- The table of powers and the two error variables: what strconv.Atoi asks. -/
structure TabsE (w : World) : Prop where
  pow : Lib.TabIs Tryz.prog w "internal/strconv.uint64pow10" .u64 Lib.pow10Tab
  syn : ∃ tp p, w.var? Tryz.prog "strconv.ErrSyntax" = some #[.iface tp p]
  rng : ∃ tp p, w.var? Tryz.prog "strconv.ErrRange" = some #[.iface tp p]
theorem TabsE.below {w w' : World} (h : TabsE w) (hb : Below w.heap.size w w') : TabsE w' := by
  obtain ⟨h1, ⟨a, b, h2⟩, ⟨c, d, h3⟩⟩ := h
  exact ⟨(TabsP.below ⟨h1⟩ hb).pow, ⟨a, b, Joins.var_stays (g := 2) (by kernel_rfl) h2 hb (Nat.le_refl _)⟩, ⟨c, d, Joins.var_stays (g := 3) (by kernel_rfl) h3 hb (Nat.le_refl _)⟩⟩
end Go.Proofs.YtekkoodlnaapeaaGreatDoor
