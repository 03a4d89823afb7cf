import Derived.Test.YtekkoodlnaapeaaGreatDoorLaw
import Derived.Test.YtekkoodlnaapeaaGreatDoorRunMany0
import Derived.Test.YtekkoodlnaapeaaGreatDoorRunMany1
/- The law FnMany, reckoned. -/
set_option linter.unusedVariables false
set_option linter.unusedSimpArgs false
set_option linter.constructorNameAsVariable false
/- The law FnMany says yes wherever it is called. -/
namespace Go.Proofs.YtekkoodlnaapeaaGreatDoor.SX
open Go.RowKit Go.Proofs Go.Proofs.YtekkoodlnaapeaaGreatDoor.Kit Go.Proofs.YtekkoodlnaapeaaGreatDoor Go.Proofs.YtekkoodlnaapeaaGreatDoorW.PrintWords
variable {l : List Int} {A : Option Addr} {c : Nat} {W : World}
theorem fnMany (h : LawAt l A c W) : Calls Tryz.prog 5 #[.slice A l.length c] W fun e w' => e = .returned (.bool true) ∧ Below W.heap.size W w' := by
  by_cases hl : l.length ≤ 1048576
  case neg => exact h.big hl bMany
  have r0 := atV_range l hl h.u8 0 (by decide)
  have r1 := atV_range l hl h.u8 1 (by decide)
  have r2 := atV_range l hl h.u8 2 (by decide)
  have d0 := d_range (atV l 0) (by omega) (by omega)
  have hW : Within cMany0.R (sg [atV l 0, atV l 1, atV l 2, dLen (atV l 0), dHd (atV l 0)]) := within_of ⟨r0, r1, r2, d0.1, d0.2, trivial⟩
  have e0 : (lvar 0 : SI).val (sg [atV l 0, atV l 1, atV l 2, dLen (atV l 0), dHd (atV l 0)]) = atV l 0 := by
    rw [lvar_val]; rfl
  have hD : DOk (sg [atV l 0, atV l 1, atV l 2, dLen (atV l 0), dHd (atV l 0)]) cMany0.D := dok_cons (by rw [e0]; rfl) (by rw [e0]; rfl) (dok_nil)
  have hT : ∀ n s, atT tMany0 n = some s → s.val (sg [atV l 0, atV l 1, atV l 2, dLen (atV l 0), dHd (atV l 0)]) = atV l n := tok_of (tok_cons (by rw [lvar_val]; rfl) (tok_cons (by rw [lvar_val]; rfl) (tok_nil)))
  have hc : (atV l 1).tmod 2 = 0 ∨ (atV l 1).tmod 2 = 1 := by
    rw [Int.tmod_eq_emod_of_nonneg (by omega)]
    omega
  rcases hc with hm | hm
  · exact h.law (C := cMany0) (CP := cManyP0) (T := tMany0) (fs := [18]) (Ms := lMany0) (kp := 1000) (f := 5) (k := 1000) hl ⟨hW, hD, mok_one (by rw [lvar_val]; exact hm)⟩ ⟨hW, hD, mok_nil⟩ hT lMany0_ok lMany0_pl (by have q := rMany0; unfold oMany0 at q; exact q)
  · exact h.law (C := cMany1) (CP := cManyP0) (T := tMany1) (fs := [18]) (Ms := lMany1) (kp := 1000) (f := 5) (k := 1000) hl ⟨hW, hD, mok_one (by rw [lvar_val]; exact hm)⟩ ⟨hW, hD, mok_nil⟩ hT lMany1_ok lMany1_pl (by have q := rMany1; unfold oMany1 at q; exact q)
end Go.Proofs.YtekkoodlnaapeaaGreatDoor.SX
