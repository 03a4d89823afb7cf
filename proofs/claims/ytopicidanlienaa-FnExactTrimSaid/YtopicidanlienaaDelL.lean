import Derived.Test.YtopicidanlienaaRowL
import Derived.Test.YtopicidanlienaaShelf2
import Derived.Shelf.SlicesE.DeleteFunc
/- clear on a slice of several elements of some cells. -/
namespace Go.Proofs.Ytopicidanlienaa.DelL
open Go.RowKit
theorem clear_run {P : Program} (w : World) (t e ty : TypeId) (z : Value) (ht : P.underlying t = some (.slice e)) (hv : ∀ w, (zeroValue e).run P w = .ok z w) (h1 : ∀ u ∈ z.cells.toList, u.oneCell' = true) (b o k c : Nat) (hk : 0 < k)
    (hc : ∀ j, j < k * z.cells.size → (w.cell? ⟨b, o + j, none⟩).isSome = true) (hf : ∀ j, j < k * z.cells.size → w.frozen? ⟨b, o + j, none⟩ = false) :
    (Builtin.clear_ #[t] ty #[.slice (some ⟨b, o, none⟩) k c]).run P w = .ok (.tuple #[]) (w.setCells b o (Builtin.zeroCells z.cells k).toList) := by
  have hl : (Builtin.zeroCells z.cells k).toList.length = k * z.cells.size := by simp [Builtin.zeroCells]
  have hst := run_storeCells_cells (P := P) b o (Builtin.zeroCells z.cells k).toList 0 w (fun j hj => by rw [Nat.add_zero]; exact hc j (by rw [← hl]; exact hj)) (fun j hj => by rw [Nat.add_zero]; exact hf j (by rw [← hl]; exact hj)) (fun u hu => by
    simp only [Builtin.zeroCells, Array.toList_map, List.mem_map, Array.mem_toList_iff, Array.mem_range] at hu
    obtain ⟨i, hi, rfl⟩ := hu
    have hp : 0 < z.cells.size := by
      rcases Nat.eq_zero_or_pos z.cells.size with h0 | h0
      · rw [h0, Nat.mul_zero] at hi; exact absurd hi (Nat.not_lt_zero _)
      · exact h0
    rw [getElem!_pos z.cells _ (Nat.mod_lt _ hp)]
    exact h1 _ (by simp))
  simp only [Nat.add_zero] at hst
  cases k with
  | zero => omega
  | succ k => simp [Builtin.clear_, run_underlying ht, hv, hst]
end Go.Proofs.Ytopicidanlienaa.DelL
